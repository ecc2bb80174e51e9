/- Part 2 of what the claim UnrollNone needs: lemmas and contracts, printed from longer texts. No conditions. -/
import Derived.Test.YteidpnpbfagaeaaRows
import Derived.Lib.SmallJoins
import Derived.KernelRfl
import Derived.WalkKit
import Derived.ProofKit
import Derived.Deep.Quiet
import Derived.Deep.LoopGhost
import Derived.StillTail
import Derived.Test.YteidpnpbfagaeaaProg
import Derived.OpenShut
import Derived.ShutString
import Derived.ChangeOld
import Derived.Deep.Slices
import Derived.SizedLaws
import Derived.Laws.StructEq
import Derived.Laws.Externs
import Derived.MapKept
import Derived.Test.YteidpnpbfagaeaaUnrollNoneP1
namespace Go.Lt
open Go.RowKit
set_option linter.unusedVariables false
set_option linter.unusedSimpArgs false

/-- The map at r holds these, in the order in which they came. -/
def MapIs {κ ν : Type} (kv : κ → Value) (vv : ν → Value) (w : World) (r : Nat) (L : List (κ × ν)) : Prop :=
  ∃ es clock, w.heap[r]? = some (.map es clock) ∧ es.toList.map (fun e => (e.key, e.val)) = L.map (fun x => (kv x.1, vv x.2))
theorem MapIs.keep {κ ν : Type} {kv : κ → Value} {vv : ν → Value} {w w' : World} {r : Nat} {L : List (κ × ν)} (h : MapIs kv vv w r L) (hr : w'.heap[r]? = w.heap[r]?) : MapIs kv vv w' r L := by
  obtain ⟨es, clock, h1, h2⟩ := h
  exact ⟨es, clock, by rw [hr]; exact h1, h2⟩
theorem MapIs.lt {κ ν : Type} {kv : κ → Value} {vv : ν → Value} {w : World} {r : Nat} {L : List (κ × ν)} (h : MapIs kv vv w r L) : r < w.heap.size := by
  obtain ⟨es, clock, h1, _⟩ := h; exact heap_lt h1
theorem MapIs.ext {κ ν : Type} {kv : κ → Value} {vv : ν → Value} {w w' : World} {r : Nat} {L : List (κ × ν)} (h : MapIs kv vv w r L) (hx : Ext w w') : MapIs kv vv w' r L := h.keep (hx.block r h.lt)
def pmap {κ ν : Type} (kv : κ → Value) (vv : ν → Value) (r : Nat) (L : List (κ × ν)) : Piece := ⟨some r, fun w => MapIs kv vv w r L, fun h hb => h.keep (hb r rfl)⟩

noncomputable def mfind {κ ν : Type} (vv : ν → Value) (a : κ) : List (κ × ν) → Nat → Option (Nat × Value)
  | [], _ => none
  | x :: r, i => bif dec (a = x.1) then some (i, vv x.2) else mfind vv a r (i + 1)
noncomputable def mget {κ ν : Type} (a : κ) : List (κ × ν) → Option ν
  | [] => none
  | x :: r => bif dec (a = x.1) then some x.2 else mget a r
theorem mfind_get {κ ν : Type} (vv : ν → Value) (a : κ) : ∀ (L : List (κ × ν)) (i : Nat), (mfind vv a L i).map (·.2) = (mget a L).map vv
  | [], _ => rfl
  | x :: r, i => by
    unfold mfind mget
    cases dec (a = x.1)
    · exact mfind_get vv a r (i + 1)
    · rfl

/-- Keys that can be held against each other, and looked at, without ado. -/
structure KeyOk {κ : Type} (P : Program) (kt : TypeId) (kv : κ → Value) : Prop where
  struct : ∃ fs, P.underlying kt = some (.struct fs)
  eq : ∀ a b w, (Op.equal kt (kv a) (kv b)).run P w = .ok (dec (a = b)) w
  chk : ∀ empty a w, (Instr.checkKey empty 10000 kt (kv a)).run P w = .ok () w

section
variable {P : Program} {κ ν : Type} {kt : TypeId} {kv : κ → Value} {vv : ν → Value}
theorem run_findAsking (hk : KeyOk P kt kv) (a : κ) (w : World) : ∀ (es : List MapEntry) (L : List (κ × ν)) (i : Nat), es.map (fun e => (e.key, e.val)) = L.map (fun x => (kv x.1, vv x.2)) → (Instr.findAsking kt (kv a) es i).run P w = .ok (mfind vv a L i) w
  | [], L, i, h => by
    cases L with
    | nil => simp [Instr.findAsking, mfind]
    | cons x r => simp at h
  | e :: es, [], i, h => by simp at h
  | e :: es, x :: r, i, h => by
    simp only [List.map_cons, List.cons.injEq, Prod.mk.injEq] at h
    obtain ⟨⟨h1, h2⟩, h3⟩ := h
    have ih := run_findAsking hk a w es r (i + 1) h3
    simp only [Instr.findAsking, Sem.run_bind, h1, hk.eq, Result.andThen_ok, mfind, h2]
    cases dec (a = x.1)
    · simpa using ih
    · simp
theorem run_findKey' (hk : KeyOk P kt kv) (a : κ) (w : World) {es : List MapEntry} {L : List (κ × ν)} (h : es.map (fun e => (e.key, e.val)) = L.map (fun x => (kv x.1, vv x.2))) : (Instr.findKey kt (kv a) es).run P w = .ok (mfind vv a L 0) w := by
  obtain ⟨fs, hfs⟩ := hk.struct
  have hu : (underlying kt).run P w = .ok (.struct fs) w := by simp [underlying, program, Sem.run, hfs]
  simp only [Instr.findKey, Sem.run_bind, hu, Result.andThen_ok]
  cases es with
  | nil =>
    cases L with
    | nil => simp [Instr.findNow, mfind]
    | cons x r => simp at h
  | cons e es =>
    have : Instr.findNow (.struct fs) (kv a) (e :: es) 0 = none := by simp [Instr.findNow, Instr.sameNow]
    rw [this]
    exact run_findAsking hk a w _ L 0 h
end

def plainD : TypeDesc → Bool
  | .bool | .int _ | .string => true
  | _ => false
def okK (T : Tab) : Nat → List Field → List Value → Bool
  | _, [], [] => true
  | i, f :: fs, x :: xs => (match tget T f.type with | some ti => plainD ti.desc | none => false) && Nat.beq f.offset i && (f.name != "_") && okK T (i + 1) fs xs
  | _, _, _ => false
section
variable {P : Program} {T : Tab}
theorem plain_agg {d : TypeDesc} (h : plainD d = true) : isAggD d = false := by cases d <;> simp [plainD] at h <;> rfl
theorem run_chk_plain (hT : OkTab P T) {t : TypeId} {i : TI} (ht : tget T t = some i) (h : plainD i.desc = true) (b : Bool) (n : Nat) (v : Value) (w : World) : (Instr.checkKey b (n + 1) t v).run P w = .ok () w := by
  have hu := run_underlying' (hT.at ht) w
  unfold Instr.checkKey
  simp only [Sem.run_bind, hu, Result.andThen_ok]
  cases hd : i.desc <;> rw [hd] at h <;> simp [plainD] at h <;> simp
theorem run_chk_fields (hT : OkTab P T) (b : Bool) (n : Nat) (w : World) : ∀ (fs : List Field) (i : Nat) (px xs : List Value), px.length = i → okK T i fs xs = true →
    (forIn (m := Sem) fs PUnit.unit (fun f _ => do
      if f.name ≠ "_" then Instr.checkKey b (n + 1) f.type (← part f.type (px ++ xs).toArray f.offset)
      pure (ForInStep.yield PUnit.unit))).run P w = .ok PUnit.unit w
  | [], i, px, xs, h1, h => by simp
  | f :: fs, i, px, [], h1, h => by simp [okK] at h
  | f :: fs, i, px, x :: xs, h1, h => by
    simp only [okK, Bool.and_eq_true] at h
    obtain ⟨⟨⟨ha, hb⟩, hc⟩, hr⟩ := h
    split at ha
    · rename_i ti hti
      have hoff := Nat.eq_of_beq_eq_true hb
      have hne : f.name ≠ "_" := by simpa using hc
      have e1 : (px ++ x :: xs).toArray[f.offset]? = some x := by rw [hoff]; simp [← h1]
      have r1 := run_part' hT hti (plain_agg ha) e1 w
      have r2 := run_chk_plain hT hti ha b n x w
      have ih := run_chk_fields hT b n w fs (i + 1) (px ++ [x]) xs (by simp [h1]) hr
      simp only [List.append_assoc, List.singleton_append] at ih
      simp only [List.forIn_cons, if_pos hne, Sem.run_bind, r1, r2, Result.andThen_ok, Sem.run_pure]
      exact ih
    · cases ha
theorem keyOk_struct {κ : Type} (hT : OkTab P T) {t : TypeId} {i : TI} {fs : List Field} (enc : κ → List Value) (ht : tget T t = some i) (hd : i.desc = .struct fs.toArray) (hp : P.stoodInHeld t = false)
    (hE : ∀ a b, okF T 0 fs (enc a) (enc b) = true) (hK : ∀ a, okK T 0 fs (enc a) = true) (hinj : ∀ a b, enc a = enc b → a = b) : KeyOk P t (fun a => .agg (enc a).toArray) := by
  have hu := (hT.at ht).1
  rw [hd] at hu
  refine ⟨⟨_, hu⟩, fun a b w => ?_, fun em a w => ?_⟩
  · have := run_eqS (P := P) hT ht hd hp (hE a b) w
    unfold Op.equal
    rw [show Op.maxDepth = 10000 from rfl, this]
    congr 1
    exact dec_congr ⟨hinj a b, fun h => by rw [h]⟩
  · have hu' : (underlying t).run P w = .ok (.struct fs.toArray) w := by simp [underlying, program, Sem.run, hu]
    have key := run_chk_fields hT em 9998 w fs 0 [] (enc a) rfl (hK a)
    rw [show (10000 : Nat) = 9998 + 1 + 1 from rfl]
    rw [Instr.checkKey]
    simp only [Sem.run_bind, hu', Result.andThen_ok]
    rw [← Array.forIn_toList]
    simp at key ⊢
    rw [key]
    simp
end

section rules
variable {P : Program} {N : Nat} {e : Env} {w : World} {Q : Exit → Act → World → Prop} {ops : List Oper} {l : List Oper} {T : Tab} {C : World → Prop} {Kf : Act → Prop}
  {d : Nat} {tt t : TypeId} {ps : String} {af : Array Edge} {g : Option (Nat × Bool)} {x y z : Operand} {ti ei : TI} {κ ν : Type} {kt et : TypeId} {kv : κ → Value} {vv : ν → Value} {L : List (κ × ν)} {a : κ} {v : ν} {r : Nat}

theorem WL.makeMap (hg : gate ops e g = some true) (hd : Nat.blt d N = true)
    (k : ∀ r w', MapIs kv vv w' r ([] : List (κ × ν)) → w.heap.size ≤ r → Ext w w' → WL P N ops.toArray l ((d, .map (some r)) :: e) w' Q) :
    WL P N ops.toArray (⟨some d, .makeMap t none, tt, ps, af, g⟩ :: l) e w Q := by
  refine WL.eff (v := .map (some w.heap.size)) (w' := fun m => (at' w m).alloc (.map #[] 0)) hg hd ?_ (fun m => k _ _ ⟨#[], 0, heap_alloc_new (at' w m) _, rfl⟩ (Nat.le_refl _) ((Ext.refl w).at m |>.trans ((Below.refl _ _).alloc (Nat.le_refl _) _)))
  intro ρ hρ m
  simp [execOp, Instr.makeMap, newObj, Sem.run]
  rfl

theorem run_lookup' (hT : OkTab P T) (hk : KeyOk P kt kv) (ht : tget T t = some ti) (htd : ti.desc = .map kt et) (he : tget T et = some ei) (hM : MapIs kv vv w r L) :
    (Instr.lookup t (.map (some r)) (kv a) true).run P w = .ok (.tuple #[((mget a L).map vv).getD ei.zero, .bool (mget a L).isSome]) w := by
  obtain ⟨es, clock, h1, h2⟩ := hM
  have hu := run_underlying' (hT.at ht) w; rw [htd] at hu
  have hz := run_zeroValue' (hT.at he) w
  have hf := run_findKey' hk a w h2
  have hg : (getObj r).run P w = .ok (.map es clock) w := by simp [getObj, Sem.run, h1]
  have hmg := mfind_get vv a L 0
  simp only [Instr.lookup, Sem.run_bind, hu, Result.andThen_ok, hg, Sem.run_pure, hk.chk, hf]
  cases hm : mfind vv a L 0 with
  | none =>
    rw [hm] at hmg
    cases hg2 : mget a L with
    | none => simp [hz]
    | some q => rw [hg2] at hmg; simp at hmg
  | some q =>
    rw [hm] at hmg
    cases hg2 : mget a L with
    | none => rw [hg2] at hmg; simp at hmg
    | some u =>
      rw [hg2] at hmg
      simp only [Option.map_some, Option.some.injEq] at hmg
      obtain ⟨qi, qv⟩ := q
      simp only at hmg
      subst hmg
      simp
theorem ylookup [Cls C w] (hT : OkTab P T) (hk : KeyOk P kt kv) (hx : ev e x = some (.map (some r))) (hy : ev e y = some (kv a)) (ht : tget T t = some ti) (htd : ti.desc = .map kt et) (he : tget T et = some ei) (hM : MapIs kv vv w r L) {dd : Option Tmp} :
    YieldsIn P e C ⟨dd, .lookup t x y true, tt, ps, af, g⟩ (.tuple #[((mget a L).map vv).getD ei.zero, .bool (mget a L).isSome]) := by
  intro ρ hρ w' hw'
  have hr := run_lookup' (P := P) (a := a) hT hk ht htd he (hM.ext (Cls.keeps (C := C) w' hw'))
  simp [execOp, hρ _ _ hx, hρ _ _ hy, hr]
theorem WL.lookup (hT : OkTab P T) (hk : KeyOk P kt kv) (hg : gate ops e g = some true) (hd : Nat.blt d N = true) (hx : ev e x = some (.map (some r))) (hy : ev e y = some (kv a)) (ht : tget T t = some ti) (htd : ti.desc = .map kt et) (he : tget T et = some ei) (hM : MapIs kv vv w r L)
    (k : WL P N ops.toArray l ((d, .tuple #[((mget a L).map vv).getD ei.zero, .bool (mget a L).isSome]) :: e) w Q) : WL P N ops.toArray (⟨some d, .lookup t x y true, tt, ps, af, g⟩ :: l) e w Q := WL.step hg hd (ylookup (C := Same w) hT hk hx hy ht htd he hM) k
theorem QL.lookup [Cls C w] (hT : OkTab P T) (hk : KeyOk P kt kv) (hg : gate ops e g = some true) (hd : Nat.blt d N = true) (hx : ev e x = some (.map (some r))) (hy : ev e y = some (kv a)) (ht : tget T t = some ti) (htd : ti.desc = .map kt et) (he : tget T et = some ei) (hM : MapIs kv vv w r L)
    (k : QL P N C ops.toArray l ((d, .tuple #[((mget a L).map vv).getD ei.zero, .bool (mget a L).isSome]) :: e) Q) : QL P N C ops.toArray (⟨some d, .lookup t x y true, tt, ps, af, g⟩ :: l) e Q := QL.step hg hd (ylookup hT hk hx hy ht htd he hM) k

theorem WL.lookupSome {v : ν} (hT : OkTab P T) (hk : KeyOk P kt kv) (hg : gate ops e g = some true) (hd : Nat.blt d N = true) (hx : ev e x = some (.map (some r))) (hy : ev e y = some (kv a)) (ht : tget T t = some ti) (htd : ti.desc = .map kt et) (he : tget T et = some ei) (hM : MapIs kv vv w r L) (hm : mget a L = some v)
    (k : WL P N ops.toArray l ((d, .tuple #[vv v, .bool true]) :: e) w Q) : WL P N ops.toArray (⟨some d, .lookup t x y true, tt, ps, af, g⟩ :: l) e w Q := WL.lookup hT hk hg hd hx hy ht htd he hM (by rw [hm]; exact k)
theorem WL.lookupNone (hT : OkTab P T) (hk : KeyOk P kt kv) (hg : gate ops e g = some true) (hd : Nat.blt d N = true) (hx : ev e x = some (.map (some r))) (hy : ev e y = some (kv a)) (ht : tget T t = some ti) (htd : ti.desc = .map kt et) (he : tget T et = some ei) (hM : MapIs kv vv w r L) (hm : mget a L = none)
    (k : WL P N ops.toArray l ((d, .tuple #[ei.zero, .bool false]) :: e) w Q) : WL P N ops.toArray (⟨some d, .lookup t x y true, tt, ps, af, g⟩ :: l) e w Q := WL.lookup hT hk hg hd hx hy ht htd he hM (by rw [hm]; exact k)
theorem QL.lookupSome [Cls C w] {v : ν} (hT : OkTab P T) (hk : KeyOk P kt kv) (hg : gate ops e g = some true) (hd : Nat.blt d N = true) (hx : ev e x = some (.map (some r))) (hy : ev e y = some (kv a)) (ht : tget T t = some ti) (htd : ti.desc = .map kt et) (he : tget T et = some ei) (hM : MapIs kv vv w r L) (hm : mget a L = some v)
    (k : QL P N C ops.toArray l ((d, .tuple #[vv v, .bool true]) :: e) Q) : QL P N C ops.toArray (⟨some d, .lookup t x y true, tt, ps, af, g⟩ :: l) e Q := QL.lookup hT hk hg hd hx hy ht htd he hM (by rw [hm]; exact k)
theorem QL.lookupNone [Cls C w] (hT : OkTab P T) (hk : KeyOk P kt kv) (hg : gate ops e g = some true) (hd : Nat.blt d N = true) (hx : ev e x = some (.map (some r))) (hy : ev e y = some (kv a)) (ht : tget T t = some ti) (htd : ti.desc = .map kt et) (he : tget T et = some ei) (hM : MapIs kv vv w r L) (hm : mget a L = none)
    (k : QL P N C ops.toArray l ((d, .tuple #[ei.zero, .bool false]) :: e) Q) : QL P N C ops.toArray (⟨some d, .lookup t x y true, tt, ps, af, g⟩ :: l) e Q := QL.lookup hT hk hg hd hx hy ht htd he hM (by rw [hm]; exact k)

/-- A new key. -/
theorem WL.mapNew {B : Nat} {w0 : World} (hT : OkTab P T) (hk : KeyOk P kt kv) (hg : gate ops e g = some true) (hx : ev e x = some (.map (some r))) (hy : ev e y = some (kv a)) (hz : ev e z = some (vv v)) (ht : tget T t = some ti) (htd : ti.desc = .map kt et) (hM : MapIs kv vv w r L) (hnew : mget a L = none) (hX : Ext w0 w) (hB : w0.heap.size ≤ r)
    (k : ∀ w', MapIs kv vv w' r (L ++ [(a, v)]) → Ext w0 w' → Upd r (some ⟨r, 0, none⟩) w w' → WL P N ops.toArray l e w' Q) :
    WL P N ops.toArray (⟨none, .mapUpdate t x y z, tt, ps, af, g⟩ :: l) e w Q := by
  obtain ⟨es, clock, h1, h2⟩ := hM
  have hlt := heap_lt h1
  refine WL.effN (w' := fun m => { at' w m with heap := w.heap.setIfInBounds r (.map (es.push { key := kv a, val := vv v, born := clock }) (clock + 1)) }) hg ?_ (fun m => ?_)
  · intro ρ hρ m
    have hu := run_underlying' (hT.at ht) (at' w m); rw [htd] at hu
    have hf := run_findKey' hk a (at' w m) h2
    have hg : (getObj r).run P (at' w m) = .ok (.map es clock) (at' w m) := by simp [getObj, Sem.run, h1]
    have hmg := mfind_get vv a L 0
    rw [hnew] at hmg
    have hmn : mfind vv a L 0 = none := by
      cases hm : mfind vv a L 0 with
      | none => rfl
      | some q => rw [hm] at hmg; simp at hmg
    rw [hmn] at hf
    have hset : (setObj r (.map (es.push { key := kv a, val := vv v, born := clock }) (clock + 1))).run P (at' w m) = .ok () { at' w m with heap := w.heap.setIfInBounds r (.map (es.push { key := kv a, val := vv v, born := clock }) (clock + 1)) } := by simp [setObj, Sem.run, h1]
    have hrun : (Instr.mapUpdate t (.map (some r)) (kv a) (vv v)).run P (at' w m) = .ok () { at' w m with heap := w.heap.setIfInBounds r (.map (es.push { key := kv a, val := vv v, born := clock }) (clock + 1)) } := by
      simp only [Instr.mapUpdate, Sem.run_bind, hu, Result.andThen_ok, hg, hk.chk, hf, hset]
    simp [execOp, hρ _ _ hx, hρ _ _ hy, hρ _ _ hz, hrun]
  · have hU : Upd r (some ⟨r, 0, none⟩) w { at' w m with heap := w.heap.setIfInBounds r (.map (es.push { key := kv a, val := vv v, born := clock }) (clock + 1)) } :=
      ⟨⟨rfl, rfl, rfl, by simp, fun q hq hne => by
        simp only [blk, Option.map_some, ne_eq, Option.some.injEq] at hne
        simp only [Array.getElem?_setIfInBounds]
        rw [if_neg (fun h => hne h.symm)]⟩, fun q hq => by simp only [blk, Option.map_some, Option.some.injEq] at hq; omega⟩
    refine k _ ⟨_, _, by simp [Array.getElem?_setIfInBounds, hlt]; exact ⟨rfl, rfl⟩, ?_⟩ (hU.ext hX hB) hU
    simp [h2]
end rules
end Go.Lt
namespace Go.Lt
open Go.RowKit
set_option linter.unusedVariables false
set_option linter.unusedSimpArgs false

section
variable {P : Program} {T : Tab} {e : Env} {dd : Option Tmp} {tt ty t el : TypeId} {x y : Operand} {ps : String} {af : Array Edge} {g : Option (Nat × Bool)} {i : TI} {p : Option Addr} {a : Addr}
theorem ynilc (hx : ev e x = some (.pointer (some a))) : Yields P e ⟨dd, .nilCheck x, tt, ps, af, g⟩ (.pointer (some a)) := by
  intro ρ hρ w
  simp [execOp, hρ _ _ hx]
theorem run_eqPtrNil (hT : OkTab P T) (ht : tget T t = some i) (hd : i.desc = .pointer el) (w : World) : (Op.equal t (.pointer p) (.pointer none)).run P w = .ok (dec (p = none)) w := by
  have hu := run_underlying' (hT.at ht) w; rw [hd] at hu
  unfold Op.equal
  rw [show Op.maxDepth = 9999 + 1 from rfl, Op.equalIn]
  simp only [Sem.run_bind, hu, Result.andThen_ok]
  cases p with
  | none => simp [dec_true]
  | some q => simp [dec_false]
theorem yeqNil (hT : OkTab P T) (hx : ev e x = some (.pointer p)) (hy : ev e y = some (.pointer none)) (ht : tget T t = some i) (hd : i.desc = .pointer el) : Yields P e ⟨dd, .binOp .eql t x y ty, tt, ps, af, g⟩ (.bool (dec (p = none))) := by
  intro ρ hρ w
  have h1 : (eqGuard .eql t x y (.pointer p) (.pointer none)).run P w = .ok () w := by simp [eqGuard]
  have h2 : (binOp .eql t (.pointer p) (.pointer none)).run P w = .ok (.bool (dec (p = none))) w := by simp [binOp, run_eqPtrNil hT ht hd]
  simp [execOp, hρ _ _ hx, hρ _ _ hy, h1, h2]
theorem yneNil (hT : OkTab P T) (hx : ev e x = some (.pointer p)) (hy : ev e y = some (.pointer none)) (ht : tget T t = some i) (hd : i.desc = .pointer el) : Yields P e ⟨dd, .binOp .neq t x y ty, tt, ps, af, g⟩ (.bool (dec (p ≠ none))) := by
  intro ρ hρ w
  have h1 : (eqGuard .neq t x y (.pointer p) (.pointer none)).run P w = .ok () w := by simp [eqGuard]
  have h3 : (!dec (p = none)) = dec (p ≠ none) := by
    by_cases hh : p = none
    · rw [dec_true hh, dec_false (fun h => h hh)]; rfl
    · rw [dec_false hh, dec_true hh]; rfl
  have h2 : (binOp .neq t (.pointer p) (.pointer none)).run P w = .ok (.bool (dec (p ≠ none))) w := by simp [binOp, run_eqPtrNil hT ht hd, h3]
  simp [execOp, hρ _ _ hx, hρ _ _ hy, h1, h2]
end

section rules
variable {P : Program} {N : Nat} {e : Env} {w : World} {Q : Exit → Act → World → Prop} {ops : List Oper} {l : List Oper} {T : Tab} {C : World → Prop} {Kf : Act → Prop}
  {d : Nat} {tt ty t el : TypeId} {ps : String} {af : Array Edge} {g : Option (Nat × Bool)} {x y : Operand} {i : TI} {p : Option Addr} {a : Addr}
theorem WL.nilc (hg : gate ops e g = some true) (hd : Nat.blt d N = true) (hx : ev e x = some (.pointer (some a))) (k : WL P N ops.toArray l ((d, .pointer (some a)) :: e) w Q) : WL P N ops.toArray (⟨some d, .nilCheck x, tt, ps, af, g⟩ :: l) e w Q := WL.step hg hd (ynilc hx).in k
theorem QL.nilc (hg : gate ops e g = some true) (hd : Nat.blt d N = true) (hx : ev e x = some (.pointer (some a))) (k : QL P N C ops.toArray l ((d, .pointer (some a)) :: e) Q) : QL P N C ops.toArray (⟨some d, .nilCheck x, tt, ps, af, g⟩ :: l) e Q := QL.step hg hd (ynilc hx).in k
theorem FL.nilc (hg : gate ops e g = some true) (hd : Nat.blt d N = true) (hx : ev e x = some (.pointer (some a))) (k : FL P N ops.toArray C l ((d, .pointer (some a)) :: e) w Kf) : FL P N ops.toArray C (⟨some d, .nilCheck x, tt, ps, af, g⟩ :: l) e w Kf := FL.step hg hd (ynilc hx).in k
theorem WL.eqNil (hT : OkTab P T) (hg : gate ops e g = some true) (hd : Nat.blt d N = true) (hx : ev e x = some (.pointer p)) (hy : ev e y = some (.pointer none)) (ht : tget T t = some i) (htd : i.desc = .pointer el) (k : WL P N ops.toArray l ((d, .bool (dec (p = none))) :: e) w Q) : WL P N ops.toArray (⟨some d, .binOp .eql t x y ty, tt, ps, af, g⟩ :: l) e w Q := WL.step hg hd (yeqNil hT hx hy ht htd).in k
theorem WL.neNil (hT : OkTab P T) (hg : gate ops e g = some true) (hd : Nat.blt d N = true) (hx : ev e x = some (.pointer p)) (hy : ev e y = some (.pointer none)) (ht : tget T t = some i) (htd : i.desc = .pointer el) (k : WL P N ops.toArray l ((d, .bool (dec (p ≠ none))) :: e) w Q) : WL P N ops.toArray (⟨some d, .binOp .neq t x y ty, tt, ps, af, g⟩ :: l) e w Q := WL.step hg hd (yneNil hT hx hy ht htd).in k
theorem QL.eqNil (hT : OkTab P T) (hg : gate ops e g = some true) (hd : Nat.blt d N = true) (hx : ev e x = some (.pointer p)) (hy : ev e y = some (.pointer none)) (ht : tget T t = some i) (htd : i.desc = .pointer el) (k : QL P N C ops.toArray l ((d, .bool (dec (p = none))) :: e) Q) : QL P N C ops.toArray (⟨some d, .binOp .eql t x y ty, tt, ps, af, g⟩ :: l) e Q := QL.step hg hd (yeqNil hT hx hy ht htd).in k
theorem QL.neNil (hT : OkTab P T) (hg : gate ops e g = some true) (hd : Nat.blt d N = true) (hx : ev e x = some (.pointer p)) (hy : ev e y = some (.pointer none)) (ht : tget T t = some i) (htd : i.desc = .pointer el) (k : QL P N C ops.toArray l ((d, .bool (dec (p ≠ none))) :: e) Q) : QL P N C ops.toArray (⟨some d, .binOp .neq t x y ty, tt, ps, af, g⟩ :: l) e Q := QL.step hg hd (yneNil hT hx hy ht htd).in k

theorem WL.neNilS {q : Addr} (hT : OkTab P T) (hg : gate ops e g = some true) (hd : Nat.blt d N = true) (hx : ev e x = some (.pointer (some q))) (hy : ev e y = some (.pointer none)) (ht : tget T t = some i) (htd : i.desc = .pointer el) (k : WL P N ops.toArray l ((d, .bool true) :: e) w Q) : WL P N ops.toArray (⟨some d, .binOp .neq t x y ty, tt, ps, af, g⟩ :: l) e w Q := WL.neNil hT hg hd hx hy ht htd (by rw [dec_true (fun h => by cases h)]; exact k)
theorem WL.eqNilS {q : Addr} (hT : OkTab P T) (hg : gate ops e g = some true) (hd : Nat.blt d N = true) (hx : ev e x = some (.pointer (some q))) (hy : ev e y = some (.pointer none)) (ht : tget T t = some i) (htd : i.desc = .pointer el) (k : WL P N ops.toArray l ((d, .bool false) :: e) w Q) : WL P N ops.toArray (⟨some d, .binOp .eql t x y ty, tt, ps, af, g⟩ :: l) e w Q := WL.eqNil hT hg hd hx hy ht htd (by rw [dec_false (fun h => by cases h)]; exact k)

/-- A store of a plain value into a field of a variable of one's own. -/
theorem WL.storeF {gb off : Nat} {v : Value} {cur : List Value} {et : TypeId} {w0 wo : World} (hT : OkTab P T) (hg : gate ops e g = some true)
    (hx : ev e x = some (.pointer (some ⟨gb, off, none⟩))) (hy : ev e y = some v) (ht : tget T t = some i)
    (hb : wo.heap[gb]? = some (.cells cur.toArray et (0, 0))) (hwo : Ext wo w) (hs : v.cells = #[v]) (hs1 : i.size = 1) (hoff : Nat.blt off cur.length = true) (h1 : v.oneCell' = true) (hX : Ext w0 w) (hB : w0.heap.size ≤ gb)
    (k : ∀ w', w'.heap[gb]? = some (.cells (cur.set off v).toArray et (0, 0)) → Ext w0 w' → Upd gb (some ⟨gb, 0, none⟩) w w' → WL P N ops.toArray l e w' Q) :
    WL P N ops.toArray (⟨none, .store t x y, tt, ps, af, g⟩ :: l) e w Q := by
  have hof : off < cur.length := by simpa [Nat.blt_eq] using hoff
  have hbw : w.heap[gb]? = some (.cells cur.toArray et (0, 0)) := by rw [hwo.block gb (Array.getElem?_eq_some_iff.1 hb).1]; exact hb
  have hcur : (cur.toArray.toList.take off ++ v.cells.toList ++ cur.toArray.toList.drop (off + v.cells.size)).toArray = (cur.set off v).toArray := by
    rw [hs]
    simp only [List.size_toArray, List.length_cons, List.length_nil]
    rw [List.set_eq_take_append_cons_drop, if_pos hof]
    simp
  refine WL.effN (w' := fun m => (at' w m).setRow gb (cur.set off v).toArray) hg ?_ (fun m => ?_)
  · intro ρ hρ m
    have hr := run_storeVar' (hT.at ht) gb off et cur.toArray (at' w m) v hbw (by rw [hs, hs1]; rfl) (by rw [hs]; simp; omega) (fun u hu => by rw [hs] at hu; simp at hu; subst hu; exact h1)
    rw [hcur] at hr
    simp [execOp, hρ _ _ hx, hρ _ _ hy, Instr.storeAt, Instr.sureAddr, hr]
  · have hU : Upd gb (some ⟨gb, 0, none⟩) w ((at' w m).setRow gb (cur.set off v).toArray) :=
      ⟨⟨rfl, rfl, rfl, by simp [World.setRow], fun k hk hne => setRow_other (at' w m) gb k _ (fun hh => hne (by rw [hh]; rfl))⟩, fun k hk => by simp only [blk, Option.map_some, Option.some.injEq] at hk; omega⟩
    exact k _ (setRow_heap (at' w m) gb cur.toArray _ et _ hbw) (hU.ext hX hB) hU
end rules
theorem Sep.map {B : Nat} {w : World} {ps : List Piece} {i r : Nat} {κ ν : Type} {kv : κ → Value} {vv : ν → Value} {L : List (κ × ν)} (hS : Sep B w ps) (h : ps[i]? = some (pmap kv vv r L)) : MapIs kv vv w r L := (hS.holds i _ h).1
theorem Sep.updMap {B : Nat} {w w' w1 : World} {ps : List Piece} {i r B' : Nat} {κ ν : Type} {kv : κ → Value} {vv : ν → Value} {L L' : List (κ × ν)} (hi : ps[i]? = some (pmap kv vv r L)) (hU : Upd B' (some ⟨r, 0, none⟩) w w') (h : MapIs kv vv w' r L') (hS : Sep B w1 ps) (hx : Ext w1 w) (hB : B ≤ w.heap.size) : Sep B w' (ps.set i (pmap kv vv r L')) :=
  (hS.ext hx).upd hi hU.grown h (.inl rfl) hB
theorem Sep.newMap {B : Nat} {w w' : World} {ps : List Piece} {r : Nat} {κ ν : Type} {kv : κ → Value} {vv : ν → Value} {L : List (κ × ν)} (hS : Sep B w ps) (hx : Ext w w') (h : MapIs kv vv w' r L) (hge : w.heap.size ≤ r) (hB : B ≤ w.heap.size) : Sep B w' (pmap kv vv r L :: ps) :=
  hS.new hx h (fun k hk => by cases hk; exact ⟨hge, h.lt⟩) hB
end Go.Lt
namespace Go.Lt
open Go.RowKit
set_option linter.unusedVariables false
set_option linter.unusedSimpArgs false

inductive Strat where
  | done : Strat
  | fl : Bool → Nat → Strat → Strat
  | br : Nat → Strat → Strat → Strat
  | stop : Strat

def heads : Strat → List Nat
  | .br i _ more => i :: heads more
  | _ => []
def slen : Strat → Nat
  | .done => 0
  | .fl _ _ k => slen k + 1
  | .br _ k _ => slen k + 1
  | .stop => 0
def isStop : Strat → Bool
  | .stop => true
  | _ => false

def stratB (ops : Array Oper) (early : Nat → Bool) : Bool → Strat → Array Bool → Bool
  | top, .done, L => top && Region.ready .any ops L == []
  | top, .fl b i k, L => top && (Region.ready .any ops L).contains i && (match ops[i]? with
      | some oi => (List.range ops.size).all (fun j => j == i || L.getD j true || waits ops j i || (match ops[j]? with | some oj => oi.apart ops oj && (b || early j) | none => false))
      | none => false) && stratB ops early true k (L.setIfInBounds i true)
  | top, .br i k more, L => (!top || Region.ready .any ops L == i :: heads more) && (isStop more || Nat.beq (slen more) (slen k + 1)) && stratB ops early true k (L.setIfInBounds i true) && stratB ops early false more L
  | top, .stop, _ => !top

section tree
variable {P : Program} {ops : Array Oper} {C : World → Prop} {early : Nat → Bool} {K : Act → World → Prop}

def wpT (P : Program) (ops : Array Oper) (C : World → Prop) (early : Nat → Bool) (K : Act → World → Prop) : Nat → Array Bool → Act → World → Prop
  | 0, listed, a, w => Region.ready .any ops listed = [] ∧ ∀ m, K a (at' w m)
  | n + 1, listed, a, w => Region.ready .any ops listed ≠ [] ∧ ∀ m, ∀ i ∈ Region.ready .any ops listed,
      wpOp P ops (onlyN K) i (fun a' w' => ((∀ m, C (at' w m)) → early i = true → ∀ m, C (at' w' m)) ∧ wpT P ops C early K n (listed.setIfInBounds i true) a' w') a (at' w m)

theorem wpT_at : ∀ {n : Nat} {listed : Array Bool} {a : Act} {w : World} (m : Nat), wpT P ops C early K n listed a w → wpT P ops C early K n listed a (at' w m)
  | 0, _, _, _, _, h => ⟨h.1, fun m' => h.2 m'⟩
  | _ + 1, _, _, _, _, h => ⟨h.1, fun m' => h.2 m'⟩

theorem wpAny_of_T {Q : Exit → Act → World → Prop} (hQ : ∀ a w, K a w → Q .normal a w) : ∀ (fuel : Nat) (listed : Array Bool) (a : Act) (w : World), wpT P ops C early K fuel listed a w → wpAny P .any ops Q fuel listed a w
  | 0, _, _, w, h => ⟨h.1, hQ _ _ (h.2 w.drawn)⟩
  | fuel + 1, _, _, w, h => ⟨fun h0 => absurd h0 h.1, fun i hi => wpOp_mono' (fun a w hh => wpAny_of_T hQ fuel _ a w hh.2) (h.2 w.drawn i hi)⟩

/-- The step yields v, and leaves the world but for draws. -/
def StillAt (P : Program) (s : Sem Next) (w : World) (v : Value) : Prop :=
  s.run P w = .ok (.value v) w ∨ ∃ f args, s.run P w = .ok (.enter f args) w ∧ Calls P f args w (fun x w' => x = .returned v ∧ ∃ m, w' = at' w m)

def SYields (P : Program) (ops : Array Oper) (C : World → Prop) (o : Oper) (v : Value) (a : Act) : Prop :=
  (Region.wanted o (yielded ops a.tmps) = true ∧ ∀ w, C w → StillAt P (execOp a.eval o) w v) ∨ (Region.wanted o (yielded ops a.tmps) = false ∧ v = undef)

theorem SYields.wpOp {i : Nat} {o : Oper} {v : Value} {a : Act} {w : World} {Q : Exit → Act → World → Prop} {K' : Act → World → Prop} (hi : ops[i]? = some o) (hy : SYields P ops C o v a) (hC : C w) (h : ∀ m, K' (a.put o.dst v) (at' w m)) : wpOp P ops Q i K' a w := by
  unfold Go.wpOp
  simp only [hi]
  rcases hy with ⟨hw, hv⟩ | ⟨hw, rfl⟩
  · simp only [hw, if_true]
    refine .inl ?_
    unfold Oper.wp
    rcases hv w hC with hv | ⟨f, args, hv, hc⟩
    · rw [hv]; exact h w.drawn
    · rw [hv]
      refine Calls.mono hc ?_
      rintro x w' ⟨rfl, m, rfl⟩
      exact h m
  · simp only [hw, Bool.false_eq_true, if_false]; exact h w.drawn

theorem SYields.of_same {o : Oper} {v : Value} {a a' : Act} (hy : SYields P ops C o v a) (he : execOp a'.eval o = execOp a.eval o)
    (hw : Region.wanted o (yielded ops a'.tmps) = Region.wanted o (yielded ops a.tmps)) : SYields P ops C o v a' := by
  unfold SYields at *
  rw [he, hw]
  exact hy

theorem wpOp_putS {j : Nat} {oi oj : Oper} {v : Value} {C : World → Prop} (hj : ops[j]? = some oj) (hap : oi.apart ops oj = true)
    (hsi : ∀ cs b, oi.op ≠ .select cs b) (hsj : ∀ cs b, oj.op ≠ .select cs b) {K0 K1 : Act → World → Prop} {a : Act} {w : World}
    (hy : SYields P ops C oi v a) (h : wpOp P ops (onlyN K0) j K1 (a.put oi.dst v) w) :
    wpOp P ops (onlyN K0) j (fun a' w' => SYields P ops C oi v a' ∧ K1 (a'.put oi.dst v) w') a w := by
  obtain ⟨h1, h2, h3⟩ := Oper.apart_spec hap
  have keep : ∀ u, SYields P ops C oi v (a.put oj.dst u) := fun u => hy.of_same (execOp_put oi hsi a oj.dst u h3) (wanted_put oi a oj.dst u h3)
  have swap : ∀ u, (a.put oi.dst v).put oj.dst u = (a.put oj.dst u).put oi.dst v := fun u => Act.put_comm a v u h2
  have lets : ¬ LetsOut (onlyN K0) := fun ⟨_, _, hq⟩ => hq
  unfold Go.wpOp at *
  simp only [hj] at *
  rw [wanted_put oj a oi.dst v h1] at h
  split
  · rename_i hw
    simp only [hw, if_true] at h
    rcases h with h | ⟨_, hq⟩
    · refine .inl ?_
      unfold Oper.wp at h ⊢
      rw [execOp_put oj hsj a oi.dst v h1] at h
      revert h
      generalize (execOp a.eval oj).run P w = r
      intro h
      unfold Oper.upon at h ⊢
      split at h
      · exact ⟨keep _, by rw [← swap]; exact h⟩
      · exact ⟨keep _, by rw [← swap]; exact h⟩
      · rename_i d w'
        have e1 : ({ a with defers := d :: a.defers }.put oj.dst undef).put oi.dst v = { a.put oi.dst v with defers := d :: (a.put oi.dst v).defers }.put oj.dst undef := by
          rw [Act.put_comm _ undef v (fun q hq hh => h2 q hh hq)]
          cases oi.dst <;> rfl
        have e2 : SYields P ops C oi v ({ a with defers := d :: a.defers }.put oj.dst undef) := by
          refine (keep undef).of_same ?_ ?_
          · cases oj.dst <;> rfl
          · cases oj.dst <;> rfl
        exact ⟨e2, by rw [e1]; exact h⟩
      · refine Calls.mono h fun x w'' hx => ?_
        cases x with
        | returned u => exact ⟨keep _, by rw [← swap]; exact hx⟩
        | panicked c => exact hx.elim
        | outgrown => exact (lets hx).elim
      · exact Rows.mono h fun u w'' hx => ⟨keep _, by rw [← swap]; exact hx⟩
      · exact h.elim
      · exact h
    · exact (lets hq).elim
  · rename_i hw
    simp only [hw] at h
    exact ⟨keep _, by rw [← swap]; exact h⟩

theorem wpT_first {i : Nat} {oi : Oper} {v : Value} {b : Bool} (hi : ops[i]? = some oi) (hsel : ∀ (j : Nat) (o : Oper) cs b, ops[j]? = some o → o.op ≠ .select cs b) :
    ∀ (fuel : Nat) (listed : Array Bool) (a : Act) (w : World), (∀ m, b = true ∨ C (at' w m)) →
      (∀ j oj, ops[j]? = some oj → j ≠ i → listed.getD j true = false → (∀ e ∈ oj.after, Region.binds .any e = true → e.on ≠ i) → oi.apart ops oj = true ∧ (b = true ∨ early j = true)) →
      i ∈ Region.ready .any ops listed → SYields P ops (fun w => b = true ∨ C w) oi v a →
      wpT P ops C early K fuel (listed.setIfInBounds i true) (a.put oi.dst v) w → wpT P ops C early K (fuel + 1) listed a w := by
  intro fuel
  induction fuel with
  | zero =>
    intro listed a w hC _ hr hy H
    refine ⟨fun h => (by rw [h] at hr; cases hr), fun m j hj => ?_⟩
    by_cases hji : j = i
    · subst hji; exact hy.wpOp hi (hC m) fun m' => ⟨fun hc _ m2 => hc m2, wpT_at m' H⟩
    · have := ready_mono hj hji
      rw [H.1] at this
      cases this
  | succ fuel ih =>
    intro listed a w hC hfree hr hy H
    refine ⟨fun h => (by rw [h] at hr; cases hr), fun m j hj => ?_⟩
    by_cases hji : j = i
    · subst hji; exact hy.wpOp hi (hC m) fun m' => ⟨fun hc _ m2 => hc m2, wpT_at m' H⟩
    · have h1 := H.2 m j (ready_mono hj hji)
      obtain ⟨hjun, oj, hoj, hall⟩ := mem_ready.1 hj
      have hnot : ∀ e ∈ oj.after, Region.binds .any e = true → e.on ≠ i := fun e he hb heq => by
        have h1 := hall e he hb
        have h0 := (mem_ready.1 hr).1
        rw [heq] at h1
        rcases Nat.lt_or_ge i listed.size with h' | h'
        · simp [h'] at h0 h1; rw [h0] at h1; cases h1
        · simp [Array.getElem?_eq_none h'] at h1
      obtain ⟨hap, hea⟩ := hfree j oj hoj hji hjun hnot
      have h2 := wpOp_putS hoj hap (fun cs b => hsel i oi cs b hi) (fun cs b => hsel j oj cs b hoj) hy h1
      have hfree' : ∀ k ok, ops[k]? = some ok → k ≠ i → (listed.setIfInBounds j true).getD k true = false →
          (∀ e ∈ ok.after, Region.binds .any e = true → e.on ≠ i) → oi.apart ops ok = true ∧ (b = true ∨ early k = true) := fun k ok hk hki hun hno => by
        refine hfree k ok hk hki ?_ hno
        by_cases hjk : j = k
        · subst hjk; exact hjun
        · rw [getD_set_ne true hjk] at hun; exact hun
      refine wpOp_mono' (fun a' w' h3 => ⟨h3.2.1, ih (listed.setIfInBounds j true) a' w' ?_ hfree' (ready_mono hr (Ne.symm hji)) h3.1 ?_⟩) h2
      · intro m2
        rcases hea with hb | hea
        · exact .inl hb
        · by_cases hb : b = true
          · exact .inl hb
          · exact .inr (h3.2.1 (fun m3 => (hC m3).resolve_left hb) hea m2)
      · rw [Array.setIfInBounds_comm _ _ hji]
        exact h3.2.2

def wpS (P : Program) (ops : Array Oper) (C : World → Prop) (early : Nat → Bool) (K : Act → World → Prop) : Strat → Act → World → Prop
  | .done, a, w => ∀ m, K a (at' w m)
  | .fl b i k, a, w => ∃ o, ops[i]? = some o ∧ ∃ v, SYields P ops (fun w => b = true ∨ C w) o v a ∧ (∀ m, b = true ∨ C (at' w m)) ∧ wpS P ops C early K k (a.put o.dst v) w
  | .br i k more, a, w => (∃ o, ops[i]? = some o ∧ ∀ m, wpList P ops (onlyN fun a' w' => (early i = true → ∀ m, C (at' w' m)) ∧ wpS P ops C early K k a' w') [o] a (at' w m)) ∧ wpS P ops C early K more a w
  | .stop, _, _ => True

theorem wpS_at : ∀ {s : Strat} {a : Act} {w : World} (m : Nat), wpS P ops C early K s a w → wpS P ops C early K s a (at' w m)
  | .done, _, _, _, h => fun m' => h m'
  | .fl b i k, _, _, m, ⟨o, ho, v, h1, h2, h3⟩ => ⟨o, ho, v, h1, fun m' => h2 m', wpS_at m h3⟩
  | .br i k more, _, _, m, ⟨⟨o, ho, h1⟩, h2⟩ => ⟨⟨o, ho, fun m' => h1 m'⟩, wpS_at m h2⟩
  | .stop, _, _, _, _ => trivial

theorem strat_all (hsel : ∀ (j : Nat) (o : Oper) cs b, ops[j]? = some o → o.op ≠ .select cs b) : ∀ (s : Strat),
    (∀ (L : Array Bool) (a : Act) (w : World), stratB ops early true s L = true → wpS P ops C early K s a w → wpT P ops C early K (slen s) L a w) ∧
    (∀ (L : Array Bool) (a : Act) (w : World) (n : Nat), stratB ops early false s L = true → (isStop s = true ∨ slen s = n + 1) → wpS P ops C early K s a w → ∀ i ∈ heads s, ∀ m,
      wpOp P ops (onlyN K) i (fun a' w' => ((∀ m, C (at' w m)) → early i = true → ∀ m, C (at' w' m)) ∧ wpT P ops C early K n (L.setIfInBounds i true) a' w') a (at' w m))
  | .done => ⟨fun L a w hB h => ⟨by simpa [stratB] using hB, h⟩, fun L a w n hB => by simp [stratB] at hB⟩
  | .stop => ⟨fun L a w hB => by simp [stratB] at hB, fun L a w n hB hn h i hi => by simp [heads] at hi⟩
  | .fl b i k => by
    refine ⟨fun L a w hB h => ?_, fun L a w n hB => by simp [stratB] at hB⟩
    obtain ⟨o, ho, v, h1, h2, h3⟩ := h
    simp only [stratB, ho, Bool.true_and, Bool.and_eq_true] at hB
    obtain ⟨⟨hB1, hB2⟩, hB3⟩ := hB
    have hfree : ∀ j oj, ops[j]? = some oj → j ≠ i → L.getD j true = false → (∀ e ∈ oj.after, Region.binds .any e = true → e.on ≠ i) → o.apart ops oj = true ∧ (b = true ∨ early j = true) := by
      intro j oj hj hji hun hno
      have hjlt : j < ops.size := (Array.getElem?_eq_some_iff.1 hj).1
      have := List.all_eq_true.1 hB2 j (List.mem_range.2 hjlt)
      simp only [hj, Bool.or_eq_true, beq_iff_eq, hji, hun, Bool.false_eq_true, false_or, Bool.and_eq_true] at this
      rcases this with hw | hw
      · exfalso
        simp only [waits, hj] at hw
        obtain ⟨e, he, hb⟩ := Array.any_eq_true'.1 hw
        simp only [Bool.and_eq_true, beq_iff_eq] at hb
        exact hno e he hb.1 hb.2
      · exact hw
    exact wpT_first ho hsel (slen k) L a w h2 hfree (by simpa using hB1) h1 ((strat_all hsel k).1 _ _ _ hB3 h3)
  | .br i k more => by
    have key : ∀ (L : Array Bool) (a : Act) (w : World), stratB ops early true k (L.setIfInBounds i true) = true →
        (∃ o, ops[i]? = some o ∧ ∀ m, wpList P ops (onlyN fun a' w' => (early i = true → ∀ m, C (at' w' m)) ∧ wpS P ops C early K k a' w') [o] a (at' w m)) → ∀ m,
        wpOp P ops (onlyN K) i (fun a' w' => ((∀ m, C (at' w m)) → early i = true → ∀ m, C (at' w' m)) ∧ wpT P ops C early K (slen k) (L.setIfInBounds i true) a' w') a (at' w m) := by
      rintro L a w hB ⟨o, ho, h⟩ m
      refine wpOp_of_list ho (h m) _ fun a' w' h' => ?_
      have h'' : (early i = true → ∀ m, C (at' w' m)) ∧ wpS P ops C early K k a' w' := h'
      exact ⟨fun _ he => h''.1 he, (strat_all hsel k).1 _ _ _ hB h''.2⟩
    refine ⟨fun L a w hB h => ?_, fun L a w n hB hn h => ?_⟩
    · simp only [stratB, Bool.not_true, Bool.false_or, Bool.and_eq_true, beq_iff_eq, Bool.or_eq_true] at hB
      obtain ⟨⟨⟨hB1, hB2⟩, hB3⟩, hB4⟩ := hB
      refine ⟨by rw [hB1]; simp, fun m j hj => ?_⟩
      rw [hB1] at hj
      rcases List.mem_cons.1 hj with rfl | hj
      · exact key L a w hB3 h.1 m
      · refine (strat_all hsel more).2 L a w (slen k) hB4 ?_ h.2 j hj m
        rcases hB2 with hB2 | hB2
        · exact .inl hB2
        · exact .inr (Nat.eq_of_beq_eq_true hB2)
    · simp only [stratB, Bool.not_false, Bool.true_or, Bool.true_and, Bool.and_eq_true, Bool.or_eq_true] at hB
      obtain ⟨⟨hB2, hB3⟩, hB4⟩ := hB
      have hk : slen k = n := by
        rcases hn with hn | hn
        · cases hn
        · exact Nat.succ.inj hn
      subst hk
      intro j hj m
      rcases List.mem_cons.1 hj with rfl | hj
      · exact key L a w hB3 h.1 m
      · refine (strat_all hsel more).2 L a w (slen k) hB4 ?_ h.2 j hj m
        rcases hB2 with hB2 | hB2
        · exact .inl hB2
        · exact .inr (Nat.eq_of_beq_eq_true hB2)
end tree

structure SG (P : Program) (N : Nat) (l : List Oper) (C : World → Prop) (early : Nat → Bool) (s : Strat) (e : Env) (w : World) (Q : Exit → Act → World → Prop) : Prop where
  go : ∀ a, Fit N e a → wpS P l.toArray C early (fun a w => Q .normal a w) s a w

def memN : List Nat → Nat → Bool
  | [], _ => false
  | k :: r, j => Nat.beq k j || memN r j
def nthO : List Oper → Nat → Option Oper
  | [], _ => none
  | o :: _, 0 => some o
  | _ :: r, i + 1 => nthO r i
theorem nthO_eq : ∀ {l : List Oper} {i : Nat} {o : Oper}, nthO l i = some o → l.toArray[i]? = some o
  | [], _, _, h => by cases h
  | _ :: _, 0, _, h => by simpa [nthO] using h
  | _ :: r, i + 1, o, h => by have := nthO_eq (l := r) (i := i) h; simpa using this

section rules
variable {P : Program} {N : Nat} {e : Env} {w : World} {Q : Exit → Act → World → Prop} {C : World → Prop} {l : List Oper} {early : Nat → Bool} {s k more : Strat} {o : Oper} {i : Nat}

theorem W.regionG {id : Nat} (s : Strat) (E : List Nat) (C : World → Prop) (hm : P.follows .mixedOrders = true) (hB : (Region.noSelect l.toArray && Nat.beq (slen s) l.toArray.size && stratB l.toArray (memN E) true s (Array.replicate l.toArray.size false)) = true)
    (h : SG P N l C (memN E) s e w Q) : W P N (.region id l.toArray true) e w Q := by
  refine ⟨fun a m hf => wp_region_any hm ?_⟩
  simp only [Bool.and_eq_true] at hB
  obtain ⟨⟨hB1, hB2⟩, hB3⟩ := hB
  have hsel : ∀ (j : Nat) (o : Oper) cs b, l.toArray[j]? = some o → o.op ≠ .select cs b := fun j o cs b ho => Region.noSelect_spec hB1 j o cs b ho
  have hsz := Nat.eq_of_beq_eq_true hB2
  have key := (strat_all (P := P) (C := C) (K := fun a w => Q .normal a w) hsel s).1 _ _ _ hB3 (h.go a hf)
  rw [hsz] at key
  exact wpAny_of_T (K := fun a w => Q .normal a w) (C := C) (early := memN E) (fun _ _ h => h) _ _ _ _ (wpT_at (w := w) (m + 1) key)

theorem W.regionGB {id : Nat} (s : Strat) (E : List Nat) (b : Option Nat) (hm : P.follows .mixedOrders = true) (hB : (Region.noSelect l.toArray && Nat.beq (slen s) l.toArray.size && stratB l.toArray (memN E) true s (Array.replicate l.toArray.size false)) = true)
    (h : SG P N l (But w b) (memN E) s e w Q) : W P N (.region id l.toArray true) e w Q := W.regionG s E (But w b) hm hB h
theorem SG.done (h : Z N Q .normal e w) : SG P N l C early .done e w Q := ⟨fun a hf m => h.go a m hf⟩
theorem SG.stop : SG P N l C early .stop e w Q := ⟨fun a hf => trivial⟩
theorem SG.fl0 (ho : nthO l i = some o) (h : FL P N l.toArray (fun _ => True) [o] e w (fun a => wpS P l.toArray C early (fun a w => Q .normal a w) k a w)) : SG P N l C early (.fl true i k) e w Q := by
  refine ⟨fun a hf => ⟨o, nthO_eq ho, ?_⟩⟩
  have := h.go a hf
  unfold wpFl at this
  split at this
  · rename_i hw
    obtain ⟨v, h1, h2⟩ := this
    exact ⟨v, .inl ⟨hw, fun w' _ => .inl (h1 w' trivial)⟩, fun m => .inl rfl, h2⟩
  · rename_i hw
    exact ⟨undef, .inr ⟨by simpa using hw, rfl⟩, fun m => .inl rfl, this⟩
theorem SG.fl1 (ho : nthO l i = some o) (hC : ∀ m, C (at' w m)) (h : FL P N l.toArray C [o] e w (fun a => wpS P l.toArray C early (fun a w => Q .normal a w) k a w)) : SG P N l C early (.fl false i k) e w Q := by
  refine ⟨fun a hf => ⟨o, nthO_eq ho, ?_⟩⟩
  have := h.go a hf
  unfold wpFl at this
  split at this
  · rename_i hw
    obtain ⟨v, h1, h2⟩ := this
    exact ⟨v, .inl ⟨hw, fun w' hc => .inl (h1 w' (hc.resolve_left (by simp)))⟩, fun m => .inr (hC m), h2⟩
  · rename_i hw
    exact ⟨undef, .inr ⟨by simpa using hw, rfl⟩, fun m => .inr (hC m), this⟩
theorem FL.nilS {opsA : Array Oper} {C' : World → Prop} (h : SG P N l C early k e w Q) : FL P N opsA C' [] e w (fun a => wpS P l.toArray C early (fun a w => Q .normal a w) k a w) := ⟨fun a hf => h.go a hf⟩
theorem SG.br (ho : nthO l i = some o) (h : WL P N l.toArray [o] e w (onlyN fun a' w' => (early i = true → ∀ m, C (at' w' m)) ∧ wpS P l.toArray C early (fun a w => Q .normal a w) k a' w')) (hm : SG P N l C early more e w Q) : SG P N l C early (.br i k more) e w Q :=
  ⟨fun a hf => ⟨⟨o, nthO_eq ho, fun m => h.go a m hf⟩, hm.go a hf⟩⟩
theorem SG.br1 (ho : nthO l i = some o) (h : WL P N l.toArray [o] e w (onlyN fun a' w' => (early i = true → ∀ m, C (at' w' m)) ∧ wpS P l.toArray C early (fun a w => Q .normal a w) k a' w')) : SG P N l C early (.br i k .stop) e w Q := SG.br ho h SG.stop
theorem Z.sg (hC : early i = true → ∀ m, C (at' w m)) (h : SG P N l C early k e w Q) : Z N (onlyN fun a' w' => (early i = true → ∀ m, C (at' w' m)) ∧ wpS P l.toArray C early (fun a w => Q .normal a w) k a' w') .normal e w :=
  ⟨fun a m hf => ⟨fun he m' => hC he m', wpS_at m (h.go a hf)⟩⟩
theorem Z.sgL (hE : early i = false) (h : SG P N l C early k e w Q) : Z N (onlyN fun a' w' => (early i = true → ∀ m, C (at' w' m)) ∧ wpS P l.toArray C early (fun a w => Q .normal a w) k a' w') .normal e w := Z.sg (fun h => by rw [hE] at h; cases h) h
theorem Z.sgE (hC : ∀ m, C (at' w m)) (h : SG P N l C early k e w Q) : Z N (onlyN fun a' w' => (early i = true → ∀ m, C (at' w' m)) ∧ wpS P l.toArray C early (fun a w => Q .normal a w) k a' w') .normal e w := Z.sg (fun _ => hC) h
end rules

section more
variable {P : Program} {T : Tab} {N : Nat} {e : Env} {w w0 : World} {Q : Exit → Act → World → Prop} {C : World → Prop} {ops l : List Oper} {Kf : Act → Prop} {K : Act → World → Prop}
  {d : Nat} {tt t ty : TypeId} {ps : String} {af : Array Edge} {g : Option (Nat × Bool)} {x y : Operand} {a b : Int}
theorem FL.loadG {bk : Option Nat} {p : Addr} {v : Value} {i : TI} (hT : OkTab P T) (hg : gate ops e g = some true) (hd : Nat.blt d N = true) (hx : ev e x = some (.pointer (some p))) (ht : tget T t = some i) (ha : isAggD i.desc = false) (hv : w0.cell? p = some v) (hb : bk ≠ some p.block)
    (k : FL P N ops.toArray (But w0 bk) l ((d, v) :: e) w Kf) : FL P N ops.toArray (But w0 bk) (⟨some d, .load t x, tt, ps, af, g⟩ :: l) e w Kf := by
  refine FL.step hg hd ?_ k
  intro ρ hρ w' hw'
  have h1 := run_isAgg' (hT.at ht); rw [ha] at h1
  have h2 := But.cell hw' hv hb
  simp [execOp, hρ _ _ hx, Instr.loadAt, Instr.sureAddr, loadVar, h1, h2]
theorem FL.build (hT : OkTab P T) {ti : TI} {fs : Array Field} {pl : List (Nat × Nat)} {parts : List (Nat × Operand)} {pvs : List (Nat × Value)} {cs : List Value} (hg : gate ops e g = some true) (hd : Nat.blt d N = true) (ht : tget T t = some ti) (htd : ti.desc = .struct fs) (hpl : places T fs.toList = some pl)
    (hp : evp e parts = some pvs) (hcs : fillL pl ti.zero.cells.toList pvs = cs) (hfill : Instr.fill (fun i : Nat => pl[i]?) ti.zero.cells pvs = some (fillL pl ti.zero.cells.toList pvs).toArray)
    (k : FL P N ops.toArray C l ((d, .agg cs.toArray) :: e) w Kf) : FL P N ops.toArray C (⟨some d, .build t ⟨parts⟩, tt, ps, af, g⟩ :: l) e w Kf := by
  refine FL.step hg hd ?_ k
  subst hcs
  exact ybuild (C := C) hT ht htd hpl hp rfl hfill
theorem FL.and1 (hg : gate ops e g = some true) (hd : Nat.blt d N = true) (hx : ev e x = some (.int .i64 a)) (hy : ev e y = some (.int .i64 1)) (h : 0 ≤ a ∧ a ≤ 9223372036854775807) (k : FL P N ops.toArray C l ((d, .int .i64 (a % 2)) :: e) w Kf) : FL P N ops.toArray C (⟨some d, .binOp .and t x y ty, tt, ps, af, g⟩ :: l) e w Kf := FL.step hg hd (yand1 hx hy h).in k
theorem SL.and1 (hg : gate ops e g = some true) (hd : Nat.blt d N = true) (hx : ev e x = some (.int .i64 a)) (hy : ev e y = some (.int .i64 1)) (h : 0 ≤ a ∧ a ≤ 9223372036854775807) (k : SL P N ops.toArray l ((d, .int .i64 (a % 2)) :: e) w K) : SL P N ops.toArray (⟨some d, .binOp .and t x y ty, tt, ps, af, g⟩ :: l) e w K := SL.step hg hd (yand1 hx hy h).in k
theorem xor1_all (a : Int) (h : 0 ≤ a ∧ a ≤ 9223372036854775807) : IntKind.i64.wrap (BitVec.ofInt IntKind.i64.bits a ^^^ BitVec.ofInt IntKind.i64.bits 1).toNat = Lt.xor1 a := by
  by_cases h1 : a = 9223372036854775807
  · subst h1; rfl
  · exact xor1_eq a ⟨h.1, by omega⟩
theorem xor0_all (a : Int) (h : 0 ≤ a ∧ a ≤ 9223372036854775807) : IntKind.i64.wrap (BitVec.ofInt IntKind.i64.bits a ^^^ BitVec.ofInt IntKind.i64.bits 0).toNat = a := by
  show IntKind.i64.wrap (BitVec.ofInt 64 a ^^^ BitVec.ofInt 64 0).toNat = a
  rw [show BitVec.ofInt 64 0 = 0#64 from rfl, BitVec.xor_zero, toNat_ofInt64 a h.1 (by omega), IntWalk.i64_in _ (by omega)]
  omega
/-- The literal a, or its inverse. -/
def xorI (a b : Int) : Int := if b = 1 then Lt.xor1 a else a
theorem yxorI {dd : Option Tmp} (hx : ev e x = some (.int .i64 a)) (hy : ev e y = some (.int .i64 b)) (h : 0 ≤ a ∧ a ≤ 9223372036854775807) (hb : b = 0 ∨ b = 1) : Yields P e ⟨dd, .binOp .xor t x y ty, tt, ps, af, g⟩ (.int .i64 (xorI a b)) := by
  have := Yields.bin (P := P) (d := dd) (op := .xor) (t := t) (ty := ty) (tt := tt) (ps := ps) (af := af) (g := g) hx hy (v := .int .i64 (IntKind.i64.wrap (BitVec.ofInt IntKind.i64.bits a ^^^ BitVec.ofInt IntKind.i64.bits b).toNat)) rfl
  rcases hb with rfl | rfl
  · rwa [xor0_all a h, show a = xorI a 0 by unfold xorI; rw [if_neg (by decide)]] at this
  · rwa [xor1_all a h, show Lt.xor1 a = xorI a 1 by unfold xorI; rw [if_pos rfl]] at this
theorem yxorA {dd : Option Tmp} (hx : ev e x = some (.int .i64 a)) (hy : ev e y = some (.int .i64 1)) (h : 0 ≤ a ∧ a ≤ 9223372036854775807) : Yields P e ⟨dd, .binOp .xor t x y ty, tt, ps, af, g⟩ (.int .i64 (Lt.xor1 a)) := by
  have := yxorI (P := P) (dd := dd) (t := t) (ty := ty) (tt := tt) (ps := ps) (af := af) (g := g) hx hy h (.inr rfl)
  rwa [xorI, if_pos rfl] at this
theorem WL.xorA (hg : gate ops e g = some true) (hd : Nat.blt d N = true) (hx : ev e x = some (.int .i64 a)) (hy : ev e y = some (.int .i64 1)) (h : 0 ≤ a ∧ a ≤ 9223372036854775807) (k : WL P N ops.toArray l ((d, .int .i64 (Lt.xor1 a)) :: e) w Q) : WL P N ops.toArray (⟨some d, .binOp .xor t x y ty, tt, ps, af, g⟩ :: l) e w Q := WL.step hg hd (yxorA hx hy h).in k
theorem QL.xorA (hg : gate ops e g = some true) (hd : Nat.blt d N = true) (hx : ev e x = some (.int .i64 a)) (hy : ev e y = some (.int .i64 1)) (h : 0 ≤ a ∧ a ≤ 9223372036854775807) (k : QL P N C ops.toArray l ((d, .int .i64 (Lt.xor1 a)) :: e) Q) : QL P N C ops.toArray (⟨some d, .binOp .xor t x y ty, tt, ps, af, g⟩ :: l) e Q := QL.step hg hd (yxorA hx hy h).in k
theorem SL.xorA (hg : gate ops e g = some true) (hd : Nat.blt d N = true) (hx : ev e x = some (.int .i64 a)) (hy : ev e y = some (.int .i64 1)) (h : 0 ≤ a ∧ a ≤ 9223372036854775807) (k : SL P N ops.toArray l ((d, .int .i64 (Lt.xor1 a)) :: e) w K) : SL P N ops.toArray (⟨some d, .binOp .xor t x y ty, tt, ps, af, g⟩ :: l) e w K := SL.step hg hd (yxorA hx hy h).in k
theorem FL.xorA (hg : gate ops e g = some true) (hd : Nat.blt d N = true) (hx : ev e x = some (.int .i64 a)) (hy : ev e y = some (.int .i64 1)) (h : 0 ≤ a ∧ a ≤ 9223372036854775807) (k : FL P N ops.toArray C l ((d, .int .i64 (Lt.xor1 a)) :: e) w Kf) : FL P N ops.toArray C (⟨some d, .binOp .xor t x y ty, tt, ps, af, g⟩ :: l) e w Kf := FL.step hg hd (yxorA hx hy h).in k
theorem WL.xorI (hg : gate ops e g = some true) (hd : Nat.blt d N = true) (hx : ev e x = some (.int .i64 a)) (hy : ev e y = some (.int .i64 b)) (h : 0 ≤ a ∧ a ≤ 9223372036854775807) (hb : b = 0 ∨ b = 1) (k : WL P N ops.toArray l ((d, .int .i64 (Lt.xorI a b)) :: e) w Q) : WL P N ops.toArray (⟨some d, .binOp .xor t x y ty, tt, ps, af, g⟩ :: l) e w Q := WL.step hg hd (yxorI hx hy h hb).in k
theorem QL.xorI (hg : gate ops e g = some true) (hd : Nat.blt d N = true) (hx : ev e x = some (.int .i64 a)) (hy : ev e y = some (.int .i64 b)) (h : 0 ≤ a ∧ a ≤ 9223372036854775807) (hb : b = 0 ∨ b = 1) (k : QL P N C ops.toArray l ((d, .int .i64 (Lt.xorI a b)) :: e) Q) : QL P N C ops.toArray (⟨some d, .binOp .xor t x y ty, tt, ps, af, g⟩ :: l) e Q := QL.step hg hd (yxorI hx hy h hb).in k
theorem FL.xorI (hg : gate ops e g = some true) (hd : Nat.blt d N = true) (hx : ev e x = some (.int .i64 a)) (hy : ev e y = some (.int .i64 b)) (h : 0 ≤ a ∧ a ≤ 9223372036854775807) (hb : b = 0 ∨ b = 1) (k : FL P N ops.toArray C l ((d, .int .i64 (Lt.xorI a b)) :: e) w Kf) : FL P N ops.toArray C (⟨some d, .binOp .xor t x y ty, tt, ps, af, g⟩ :: l) e w Kf := FL.step hg hd (yxorI hx hy h hb).in k
end more
end Go.Lt
namespace Go.Proofs.Yteidpnpbfagaeaa
open Go Go.Lt Go.RowKit
set_option linter.unusedVariables false
set_option linter.unusedSimpArgs false
set_option maxRecDepth 20000

abbrev T3 := Int × Int × Int
abbrev enc3 : T3 → List Value := fun x => [.int .i64 x.1, .int .i64 x.2.1, .int .i64 x.2.2]
theorem enc3_ok : Enc 3 enc3 := ⟨fun _ => rfl, by intro x u hu; simp only [enc3, List.mem_cons, List.not_mem_nil, or_false] at hu; rcases hu with rfl | rfl | rfl <;> rfl, by decide⟩

/-- Where a variable was set. -/
def plc (v : Int) : List T3 → Option Nat
  | [] => none
  | x :: r => if x.1 / 2 = v then some 0 else (plc v r).map (· + 1)
theorem plc_first {v : Int} {L : List T3} {i : Nat} {x : T3} (hx : L[i]? = some x) (hv : x.1 / 2 = v) (h : ∀ j y, j < i → L[j]? = some y → y.1 / 2 ≠ v) : plc v L = some i := by
  induction L generalizing i with
  | nil => simp at hx
  | cons y r ih =>
    unfold plc
    cases i with
    | zero => simp at hx; subst hx; rw [if_pos hv]
    | succ i =>
      rw [if_neg (h 0 y (by omega) rfl), ih (by simpa using hx) (fun j z hj hz => h (j + 1) z (by omega) (by simpa using hz))]; rfl
/-- Each variable is set but once, and is one. -/
def TOk (n : Int) (L : List T3) : Prop := (∀ x ∈ L, 2 ≤ x.1 ∧ x.1 / 2 ≤ n) ∧ L.Pairwise (fun x y => x.1 / 2 ≠ y.1 / 2)
theorem TOk.inj {n : Int} {L : List T3} (h : TOk n L) {i j : Nat} {x y : T3} (hx : L[i]? = some x) (hy : L[j]? = some y) (he : x.1 / 2 = y.1 / 2) : i = j := by
  have hp := List.pairwise_iff_getElem.1 h.2
  obtain ⟨hi, rfl⟩ := List.getElem?_eq_some_iff.1 hx
  obtain ⟨hj, rfl⟩ := List.getElem?_eq_some_iff.1 hy
  rcases Nat.lt_trichotomy i j with h1 | h1 | h1
  · exact absurd he (hp i j hi hj h1)
  · exact h1
  · exact absurd he.symm (hp j i hj hi h1)
theorem TOk.at_ {n : Int} {L : List T3} (h : TOk n L) {i : Nat} {x : T3} (hx : L[i]? = some x) : plc (x.1 / 2) L = some i :=
  plc_first hx rfl fun j y hj hy he => by have := h.inj hx hy he.symm; omega
theorem TOk.sub {n : Int} {L L' : List T3} (h : TOk n L) (hs : L'.Sublist L) : TOk n L' := ⟨fun x hx => h.1 x (hs.subset hx), h.2.sublist hs⟩
theorem TOk.nil (n : Int) : TOk n [] := ⟨by simp, List.Pairwise.nil⟩
end Go.Proofs.Yteidpnpbfagaeaa
namespace Go.Proofs.Yteidpnpbfagaeaa
open Go Go.Lt Go.RowKit
set_option linter.unusedVariables false
set_option linter.unusedSimpArgs false
set_option maxRecDepth 20000

abbrev Sy := Int × Int × ByteArray
abbrev encY : Sy → List Value := fun x => [.int .u8 x.1, .int .i64 x.2.1, .string x.2.2]
theorem encY_ok : Enc 3 encY := ⟨fun _ => rfl, by intro x u hu; simp only [encY, List.mem_cons, List.not_mem_nil, or_false] at hu; rcases hu with rfl | rfl | rfl <;> rfl, by decide⟩
/-- A circuit by value: its rows, with where they lie. -/
structure Circ where
  max : Int
  ins : RowV Int
  lat : RowV T3
  outs : RowV Int
  bads : RowV Int
  cons : RowV Int
  gates : RowV T3
  syms : RowV Sy
  com : ByteArray
abbrev rowVal {α : Type} (r : RowV α) : Value := .slice r.1 r.2.2.length r.2.1
abbrev Circ.vals (c : Circ) : List Value := [.int .i64 c.max, rowVal c.ins, rowVal c.lat, rowVal c.outs, rowVal c.bads, rowVal c.cons, rowVal c.gates, rowVal c.syms, .string c.com]
abbrev Circ.val (c : Circ) : Value := .agg c.vals.toArray
/-- A row that may be read, no longer than its room. -/
structure RowK {α : Type} (s : Nat) (enc : α → List Value) (w : World) (r : RowV α) : Prop where
  row : Row s enc w r.1 r.2.2
  cap : r.2.2.length ≤ r.2.1
  none : r.1 = none → r.2.1 = 0
theorem RowK.ext {α : Type} {s : Nat} {enc : α → List Value} {w w1 : World} {r : RowV α} (h : RowK s enc w r) (hx : Ext w w1) : RowK s enc w1 r := ⟨h.row.ext hx, h.cap, h.none⟩
structure CAt (w : World) (c : Circ) : Prop where
  ins : RowK 1 encI w c.ins
  lat : RowK 3 enc3 w c.lat
  outs : RowK 1 encI w c.outs
  bads : RowK 1 encI w c.bads
  cons : RowK 1 encI w c.cons
  gates : RowK 3 enc3 w c.gates
  syms : RowK 3 encY w c.syms
theorem CAt.ext {w w1 : World} {c : Circ} (h : CAt w c) (hx : Ext w w1) : CAt w1 c := ⟨h.1.ext hx, h.2.ext hx, h.3.ext hx, h.4.ext hx, h.5.ext hx, h.6.ext hx, h.7.ext hx⟩
/-- What a circuit is, wherever it lies. -/
structure CirT where
  max : Int
  ins : List Int
  lat : List T3
  outs : List Int
  bads : List Int
  cons : List Int
  gates : List T3
  syms : List Sy
  com : ByteArray
abbrev Circ.t (c : Circ) : CirT := ⟨c.max, c.ins.2.2, c.lat.2.2, c.outs.2.2, c.bads.2.2, c.cons.2.2, c.gates.2.2, c.syms.2.2, c.com⟩
abbrev CirT.own (c : CirT) : List Int := c.ins ++ c.lat.map (·.1) ++ c.gates.map (·.1)
abbrev CirT.used (c : CirT) : List Int := c.outs ++ c.bads ++ c.cons ++ c.lat.map (·.2.1) ++ c.gates.flatMap (fun g => [g.2.1, g.2.2])
def BadMax (c : CirT) : Prop := c.max < 0 ∨ 16777216 < c.max
def BadOwn (c : CirT) : Prop := ∃ x ∈ c.own, x < 2 ∨ x % 2 = 1 ∨ 2 * c.max < x
def BadUse (c : CirT) : Prop := ∃ x ∈ c.used, x < 0 ∨ 2 * c.max + 1 < x
def BadRes (c : CirT) : Prop := ∃ x ∈ c.lat, x.2.2 ≠ 0 ∧ x.2.2 ≠ 1 ∧ x.2.2 ≠ x.1
def Twice (c : CirT) : Prop := ∃ i x, c.own[i]? = some x ∧ x ∈ c.own.take i
def NoneC (c : CirT) : Prop := ∃ x ∈ c.used, 1 < x ∧ x - x % 2 ∉ c.own
open Classical in
/-- What is wrong with a circuit. -/
noncomputable def chkC (c : CirT) : Int :=
  if BadMax c ∨ BadOwn c ∨ BadUse c ∨ BadRes c then 5 else if Twice c then 7 else if NoneC c then 9 else if (ordL c.gates).length < c.gates.length then 8 else 0
structure GoodC' (c : CirT) : Prop where
  max : 0 ≤ c.max ∧ c.max ≤ 16777216
  own : ∀ x ∈ c.own, 2 ≤ x ∧ x % 2 = 0 ∧ x ≤ 2 * c.max
  used : ∀ x ∈ c.used, 0 ≤ x ∧ x ≤ 2 * c.max + 1
  res : ∀ x ∈ c.lat, x.2.2 = 0 ∨ x.2.2 = 1 ∨ x.2.2 = x.1
  once : c.own.Nodup
  has : ∀ x ∈ c.used, 1 < x → x - x % 2 ∈ c.own
  ord : (ordL c.gates).length = c.gates.length
theorem nodup_take {α : Type} {l : List α} (h : ∀ i x, l[i]? = some x → x ∉ l.take i) : l.Nodup := by
  rw [List.nodup_iff_pairwise_ne, List.pairwise_iff_getElem]
  intro i j hi hj hij he
  refine h j l[j] (List.getElem?_eq_getElem hj) ?_
  rw [← he]
  exact List.mem_take_iff_getElem.2 ⟨i, by omega, rfl⟩
theorem chkC_good {c : CirT} : chkC c = 0 ↔ GoodC' c := by
  unfold chkC
  constructor
  · intro h
    split at h
    · cases h
    · rename_i h1
      split at h
      · cases h
      · rename_i h2
        split at h
        · cases h
        · rename_i h3
          split at h
          · cases h
          · rename_i h4
            have hm : ¬ BadMax c := fun hh => h1 (.inl hh)
            have ho : ¬ BadOwn c := fun hh => h1 (.inr (.inl hh))
            have hu : ¬ BadUse c := fun hh => h1 (.inr (.inr (.inl hh)))
            have hr : ¬ BadRes c := fun hh => h1 (.inr (.inr (.inr hh)))
            unfold BadMax at hm
            refine ⟨by omega, fun x hx => ?_, fun x hx => ?_, fun x hx => ?_, ?_, fun x hx h5 => ?_, ?_⟩
            · have : ¬ (x < 2 ∨ x % 2 = 1 ∨ 2 * c.max < x) := fun hh => ho ⟨x, hx, hh⟩
              omega
            · have : ¬ (x < 0 ∨ 2 * c.max + 1 < x) := fun hh => hu ⟨x, hx, hh⟩
              omega
            · have : ¬ (x.2.2 ≠ 0 ∧ x.2.2 ≠ 1 ∧ x.2.2 ≠ x.1) := fun hh => hr ⟨x, hx, hh⟩
              omega
            · exact nodup_take fun i x hx hm => h2 ⟨i, x, hx, hm⟩
            · exact Classical.byContradiction fun hh => h3 ⟨x, hx, h5, hh⟩
            · have := (ordL_is c.gates).1.le; omega
  · intro h
    have hm := h.max
    rw [if_neg (fun hh => ?_), if_neg (fun hh => ?_), if_neg (fun hh => ?_), if_neg (fun hh => ?_)]
    · have := h.ord; omega
    · obtain ⟨x, h1, h2, h3⟩ := hh; exact h3 (h.has x h1 h2)
    · obtain ⟨i, x, h1, h2⟩ := hh
      have h3 := List.pairwise_iff_getElem.1 (List.nodup_iff_pairwise_ne.1 h.once)
      obtain ⟨j, hj, he⟩ := List.mem_take_iff_getElem.1 h2
      obtain ⟨hi, he2⟩ := List.getElem?_eq_some_iff.1 h1
      exact h3 j i (by omega) hi (by omega) (by rw [he, he2])
    · rcases hh with hh | ⟨x, h1, h2⟩ | ⟨x, h1, h2⟩ | ⟨x, h1, h2⟩
      · unfold BadMax at hh; omega
      · have := h.own x h1; omega
      · have := h.used x h1; omega
      · have := h.res x h1; omega
end Go.Proofs.Yteidpnpbfagaeaa
namespace Go.Lt
open Go.RowKit
set_option linter.unusedVariables false
set_option linter.unusedSimpArgs false
section
variable {P : Program} {T : Tab} {e : Env} {dd : Option Tmp} {tt ty t el : TypeId} {x y : Operand} {ps : String} {af : Array Edge} {g : Option (Nat × Bool)} {i : TI} {a : Option Addr} {n c : Nat}
theorem run_eqSliceNil (hT : OkTab P T) (ht : tget T t = some i) (hd : i.desc = .slice el) (w : World) : (Op.equal t (.slice a n c) (.slice none 0 0)).run P w = .ok (dec (a = none)) w := by
  have hu := run_underlying' (hT.at ht) w; rw [hd] at hu
  unfold Op.equal
  rw [show Op.maxDepth = 9999 + 1 from rfl, Op.equalIn]
  simp only [Sem.run_bind, hu, Result.andThen_ok]
  cases a with
  | none => simp [dec_true]
  | some q => simp [dec_false]
theorem yeqSl (hT : OkTab P T) (hx : ev e x = some (.slice a n c)) (hy : ev e y = some (.slice none 0 0)) (ht : tget T t = some i) (hd : i.desc = .slice el) : Yields P e ⟨dd, .binOp .eql t x y ty, tt, ps, af, g⟩ (.bool (dec (a = none))) := by
  intro ρ hρ w
  have h1 : (eqGuard .eql t x y (.slice a n c) (.slice none 0 0)).run P w = .ok () w := by simp [eqGuard]
  have h2 : (binOp .eql t (.slice a n c) (.slice none 0 0)).run P w = .ok (.bool (dec (a = none))) w := by simp [binOp, run_eqSliceNil hT ht hd]
  simp [execOp, hρ _ _ hx, hρ _ _ hy, h1, h2]
variable {N d : Nat} {w : World} {Q : Exit → Act → World → Prop} {C : World → Prop} {ops l : List Oper} {Kf : Act → Prop}
theorem WL.eqSl (hT : OkTab P T) (hg : gate ops e g = some true) (hd : Nat.blt d N = true) (hx : ev e x = some (.slice a n c)) (hy : ev e y = some (.slice none 0 0)) (ht : tget T t = some i) (htd : i.desc = .slice el) (k : WL P N ops.toArray l ((d, .bool (dec (a = none))) :: e) w Q) : WL P N ops.toArray (⟨some d, .binOp .eql t x y ty, tt, ps, af, g⟩ :: l) e w Q := WL.step hg hd (yeqSl hT hx hy ht htd).in k
theorem QL.eqSl (hT : OkTab P T) (hg : gate ops e g = some true) (hd : Nat.blt d N = true) (hx : ev e x = some (.slice a n c)) (hy : ev e y = some (.slice none 0 0)) (ht : tget T t = some i) (htd : i.desc = .slice el) (k : QL P N C ops.toArray l ((d, .bool (dec (a = none))) :: e) Q) : QL P N C ops.toArray (⟨some d, .binOp .eql t x y ty, tt, ps, af, g⟩ :: l) e Q := QL.step hg hd (yeqSl hT hx hy ht htd).in k
theorem FL.sliceH0 {ti ei : TI} {ao : Option Addr} {nn cap : Nat} {kk : IntKind} {h : Int} (hT : OkTab P T) (hg : gate ops e g = some true) (hd : Nat.blt d N = true)
    (hx : ev e x = some (.slice ao nn cap)) (hy : ev e y = some (.int kk h)) (ht : tget T t = some ti) (htd : ti.desc = .slice el) (he : tget T el = some ei) (h0 : 0 ≤ h ∧ h ≤ cap)
    (k : FL P N ops.toArray C l ((d, .slice ao h.toNat cap) :: e) w Kf) : FL P N ops.toArray C (⟨some d, .slice t x none (some y) none, tt, ps, af, g⟩ :: l) e w Kf := by
  refine FL.step hg hd ?_ k
  intro ρ hρ w' _
  have := run_sliceH (P := P) hT (n := nn) (ao := ao) (k := kk) ht htd he h0 w'
  simp [execOp, hρ _ _ hx, hρ _ _ hy, this]
theorem WL.sliceH0 {ti ei : TI} {ao : Option Addr} {nn cap : Nat} {kk : IntKind} {h : Int} (hT : OkTab P T) (hg : gate ops e g = some true) (hd : Nat.blt d N = true)
    (hx : ev e x = some (.slice ao nn cap)) (hy : ev e y = some (.int kk h)) (ht : tget T t = some ti) (htd : ti.desc = .slice el) (he : tget T el = some ei) (h0 : 0 ≤ h ∧ h ≤ cap)
    (k : WL P N ops.toArray l ((d, .slice ao h.toNat cap) :: e) w Q) : WL P N ops.toArray (⟨some d, .slice t x none (some y) none, tt, ps, af, g⟩ :: l) e w Q := by
  refine WL.step hg hd ?_ k
  intro ρ hρ w' _
  have := run_sliceH (P := P) hT (n := nn) (ao := ao) (k := kk) ht htd he h0 w'
  simp [execOp, hρ _ _ hx, hρ _ _ hy, this]
theorem FL.sliceL0 {ti ei : TI} {ao : Option Addr} {nn cap s : Nat} {kk : IntKind} {h : Int} (hT : OkTab P T) (hg : gate ops e g = some true) (hd : Nat.blt d N = true)
    (hx : ev e x = some (.slice ao nn cap)) (hy : ev e y = some (.int kk h)) (ht : tget T t = some ti) (htd : ti.desc = .slice el) (he : tget T el = some ei) (hs : ei.size = s) (h0 : 0 ≤ h ∧ h ≤ nn)
    (k : FL P N ops.toArray C l ((d, .slice (subA ao cap h.toNat s) (nn - h.toNat) (cap - h.toNat)) :: e) w Kf) : FL P N ops.toArray C (⟨some d, .slice t x (some y) none none, tt, ps, af, g⟩ :: l) e w Kf := by
  refine FL.step hg hd ?_ k
  subst hs
  intro ρ hρ w' _
  have := run_sliceL (P := P) hT (n := nn) (cap := cap) (ao := ao) (k := kk) ht htd he h0 w'
  simp [execOp, hρ _ _ hx, hρ _ _ hy, this, subA]
end
section ext
variable {P : Program} {T : Tab} {N d : Nat} {e : Env} {w w0 : World} {C : World → Prop} {ops l : List Oper} {Kf : Act → Prop} {tt t ty : TypeId} {ps : String} {af : Array Edge} {g : Option (Nat × Bool)} {x y : Operand}
theorem FL.loadE {p : Addr} {v : Value} {i : TI} (hT : OkTab P T) (hg : gate ops e g = some true) (hd : Nat.blt d N = true) (hx : ev e x = some (.pointer (some p))) (ht : tget T t = some i) (ha : isAggD i.desc = false) (hv : w0.cell? p = some v)
    (k : FL P N ops.toArray (Ext w0) l ((d, v) :: e) w Kf) : FL P N ops.toArray (Ext w0) (⟨some d, .load t x, tt, ps, af, g⟩ :: l) e w Kf := by
  refine FL.step hg hd ?_ k
  intro ρ hρ w' hw'
  have h1 := run_isAgg' (hT.at ht); rw [ha] at h1
  have h2 := Ext.cell hw' hv
  simp [execOp, hρ _ _ hx, Instr.loadAt, Instr.sureAddr, loadVar, h1, h2]
theorem FL.loadAE {b off : Nat} {vs : List Value} {i : TI} (hT : OkTab P T) (hg : gate ops e g = some true) (hd : Nat.blt d N = true) (hx : ev e x = some (.pointer (some ⟨b, off, none⟩))) (ht : tget T t = some i) (ha : isAggD i.desc = true) (hv : Cells w0 b off vs) (hs : i.size = vs.length)
    (k : FL P N ops.toArray (Ext w0) l ((d, .agg vs.toArray) :: e) w Kf) : FL P N ops.toArray (Ext w0) (⟨some d, .load t x, tt, ps, af, g⟩ :: l) e w Kf := by
  refine FL.step hg hd ?_ k
  intro ρ hρ w' hw'
  have h1 := run_isAgg' (hT.at ht); rw [ha] at h1
  have h3 := run_sizeOf' (hT.at ht); rw [hs] at h3
  have h2 := run_loadCellsFrom (P := P) (acc := #[]) (off := off) (i := 0) (Cells.ext hw' hv)
  simp [execOp, hρ _ _ hx, Instr.loadAt, Instr.sureAddr, loadVar, h1, h3, loadCells, h2]
theorem FL.indexE {α : Type} {s : Nat} {enc : α → List Value} {a : Option Addr} {xs : List α} {n cap : Nat} {kk : IntKind} {i : Int} {ti ei : TI} {el : TypeId} {z : α}
    (hT : OkTab P T) (hg : gate ops e g = some true) (hd : Nat.blt d N = true) (hx : ev e x = some (.slice a n cap)) (hy : ev e y = some (.int kk i)) (ht : tget T t = some ti) (htd : ti.desc = .slice el) (he : tget T el = some ei) (hs : ei.size = s)
    (R : Row s enc w0 a xs) (hn : xs.length = n) (h0 : 0 ≤ i) (hz : xs[i.toNat]? = some z)
    (k : ∀ b off, Cells w0 b off (enc z) → FL P N ops.toArray C l ((d, .pointer (some ⟨b, off, none⟩)) :: e) w Kf) : FL P N ops.toArray C (⟨some d, .indexAddr t x y, tt, ps, af, g⟩ :: l) e w Kf := by
  obtain ⟨b, off, hc, hy'⟩ := yindex (P := P) (dd := some d) (t := t) (tt := tt) (x := x) (y := y) (ps := ps) (af := af) (g := g) hT hx hy ht htd he hs R (Ext.refl _) hn h0 hz
  exact FL.step hg hd hy'.in (k b off hc)
end ext
section remk
variable {P : Program} {N d : Nat} {e : Env} {w : World} {Q : Exit → Act → World → Prop} {ops l : List Oper} {tt t ty : TypeId} {ps : String} {af : Array Edge} {g : Option (Nat × Bool)} {x y : Operand} {a b : Int} {kk : IntKind}
end remk
section cut
variable {P : Program} {N : Nat} {e : Env} {w : World} {Q : Exit → Act → World → Prop}
/-- A cut behind x, whatever comes. -/
theorem W.cutT {σ : Type} {x y : Code} (I : σ → Prop) (E : σ → Env) (U : σ → World)
    (h : W P N x e w (Exit.then (fun a w' => ∃ s, I s ∧ Fit N (E s) a ∧ ∃ m, w' = at' (U s) m) Q))
    (k : ∀ s, I s → W P N y (E s) (U s) Q) : W P N x e w (Exit.then (y.wp P Q) Q) := ⟨fun a m hf => by
  refine wp_mono (h.go a m hf) fun ex a' w' hq => ?_
  cases ex with
  | normal => obtain ⟨s, h1, h2, n, h3⟩ := hq; subst h3; exact (k s h1).go a' n h2
  | _ => exact hq⟩
end cut
theorem Sep.pick {B : Nat} {w : World} {ps qs : List Piece} (f : Nat → Nat) (hS : Sep B w ps) (hf : ∀ i p, qs[i]? = some p → ps[f i]? = some p) (hi : ∀ i j, i < qs.length → j < qs.length → i ≠ j → f i ≠ f j) : Sep B w qs := by
  refine ⟨fun i p h => hS.holds _ _ (hf i p h), fun i j p q h1 h2 hne => hS.apart _ _ _ _ (hf i p h1) (hf j q h2) (hi i j ?_ ?_ hne)⟩
  · exact (List.getElem?_eq_some_iff.1 h1).1
  · exact (List.getElem?_eq_some_iff.1 h2).1
theorem Sep.re {B : Nat} {w : World} {ps : List Piece} {i : Nat} {p p' : Piece} (hS : Sep B w ps) (hi : ps[i]? = some p) (hb : p'.b = p.b) (hp : p'.P w) : Sep B w (ps.set i p') := by
  have hil := (List.getElem?_eq_some_iff.1 hi).1
  have key : ∀ (j : Nat) (q : Piece), (ps.set i p')[j]? = some q → ∃ q0, ps[j]? = some q0 ∧ q.b = q0.b ∧ (q.P w ∨ q = q0) := by
    intro j q hq
    by_cases hij : i = j
    · subst hij
      rw [List.getElem?_set_self hil] at hq
      cases hq
      exact ⟨p, hi, hb, .inl hp⟩
    · rw [List.getElem?_set_ne hij] at hq
      exact ⟨q, hq, rfl, .inr rfl⟩
  refine ⟨fun j q hq => ?_, fun j k q r hq hr hne => ?_⟩
  · obtain ⟨q0, h1, h2, h3⟩ := key j q hq
    have h4 := hS.holds j q0 h1
    refine ⟨?_, fun k hk => h4.2 k (by rw [← h2]; exact hk)⟩
    rcases h3 with h3 | rfl
    · exact h3
    · exact h4.1
  · obtain ⟨q0, h1, h2, _⟩ := key j q hq
    obtain ⟨r0, h3, h4, _⟩ := key k r hr
    rw [h2, h4]
    exact hS.apart j k q0 r0 h1 h3 hne
/-- The second piece and the third one change places. -/
theorem Sep.swap12 {B : Nat} {w : World} {p q r : Piece} {ps : List Piece} (hS : Sep B w (p :: q :: r :: ps)) : Sep B w (p :: r :: q :: ps) := by
  refine hS.pick (fun i => if i = 1 then 2 else if i = 2 then 1 else i) (fun i x h => ?_) (fun i j _ _ hne => ?_)
  · match i, h with
    | 0, h => exact h
    | 1, h => exact h
    | 2, h => exact h
    | i + 3, h => simpa using h
  · show (if i = 1 then 2 else if i = 2 then 1 else i) ≠ (if j = 1 then 2 else if j = 2 then 1 else j)
    split <;> split <;> (try split) <;> (try split) <;> omega
theorem Sep.comm {B : Nat} {w : World} {ps qs : List Piece} (hS : Sep B w (ps ++ qs)) : Sep B w (qs ++ ps) := by
  refine hS.pick (fun i => if i < qs.length then ps.length + i else i - qs.length) (fun i x h => ?_) (fun i j hi hj hne => ?_)
  · by_cases h1 : i < qs.length
    · simp only [if_pos h1]
      rw [List.getElem?_append_left h1] at h
      rw [List.getElem?_append_right (by omega), Nat.add_sub_cancel_left]; exact h
    · simp only [if_neg h1]
      rw [List.getElem?_append_right (by omega)] at h
      rw [List.getElem?_append_left (List.getElem?_eq_some_iff.1 h).1]; exact h
  · rw [List.length_append] at hi hj
    show (if i < qs.length then ps.length + i else i - qs.length) ≠ (if j < qs.length then ps.length + j else j - qs.length)
    split <;> split <;> omega
/-- The first piece and the second one change places. -/
theorem Sep.swap01 {B : Nat} {w : World} {p q : Piece} {ps : List Piece} (hS : Sep B w (p :: q :: ps)) : Sep B w (q :: p :: ps) := by
  refine hS.pick (fun i => if i = 0 then 1 else if i = 1 then 0 else i) (fun i x h => ?_) (fun i j _ _ hne => ?_)
  · match i, h with
    | 0, h => exact h
    | 1, h => exact h
    | i + 2, h => simpa using h
  · show (if i = 0 then 1 else if i = 1 then 0 else i) ≠ (if j = 0 then 1 else if j = 1 then 0 else j)
    split <;> split <;> (try split) <;> (try split) <;> omega
end Go.Lt
namespace Go.Proofs.Yteidpnpbfagaeaa
open Go Go.Lt Go.RowKit
set_option linter.unusedVariables false
set_option linter.unusedSimpArgs false
set_option maxRecDepth 20000

def WaitsP (gs : List G3) (told : List Bool) (l : Int) : Prop := ∃ (j : Nat) (x : G3), gs[j]? = some x ∧ told[j]? = some false ∧ x.1 / 2 = l / 2
abbrev gsOk (gs : List G3) : Prop := ∀ g ∈ gs, (0 ≤ g.1 ∧ g.1 ≤ 33554433) ∧ (0 ≤ g.2.1 ∧ g.2.1 ≤ 33554433) ∧ (0 ≤ g.2.2 ∧ g.2.2 ≤ 33554433)
/-- Which gates are told. -/
structure TolD (gs : List G3) (L : List Nat) (told : List Bool) : Prop where
  len : told.length = gs.length
  yes : ∀ j : Nat, j ∈ L → j < gs.length → told[j]? = some true
  no : ∀ j : Nat, j ∉ L → j < gs.length → told[j]? = some false
theorem TolD.waits {gs : List G3} {L : List Nat} {told : List Bool} (h : TolD gs L told) (l : Int) : WaitsP gs told l ↔ ∃ (j : Nat) (x : G3), gs[j]? = some x ∧ j ∉ L ∧ x.1 / 2 = l / 2 := by
  constructor
  · rintro ⟨j, x, h1, h2, h3⟩
    refine ⟨j, x, h1, fun hm => ?_, h3⟩
    rw [h.yes j hm (lt_of_get h1)] at h2; cases h2
  · rintro ⟨j, x, h1, h2, h3⟩
    exact ⟨j, x, h1, h.no j h2 (lt_of_get h1), h3⟩
theorem TolD.rdy {gs : List G3} {L : List Nat} {told : List Bool} (h : TolD gs L told) {i : Nat} {g : G3} (hg : gs[i]? = some g) : Rdy gs L i ↔ (told[i]? = some false ∧ ¬ WaitsP gs told g.2.1 ∧ ¬ WaitsP gs told g.2.2) := by
  rw [h.waits, h.waits]
  constructor
  · rintro ⟨g', hg', h1, h2⟩
    rw [hg] at hg'; cases hg'
    exact ⟨h.no i h1 (lt_of_get hg), fun ⟨j, x, h3, h4, h5⟩ => (h2 j x h3 h4).1 h5, fun ⟨j, x, h3, h4, h5⟩ => (h2 j x h3 h4).2 h5⟩
  · rintro ⟨h1, h2, h3⟩
    refine ⟨g, hg, fun hm => ?_, fun j x hx hj => ⟨fun he => h2 ⟨j, x, hx, hj, he⟩, fun he => h3 ⟨j, x, hx, hj, he⟩⟩⟩
    rw [h.yes i hm (lt_of_get hg)] at h1; cases h1
theorem TolD.push {gs : List G3} {L : List Nat} {told : List Bool} (h : TolD gs L told) {i : Nat} (hi : i < gs.length) : TolD gs (L ++ [i]) (told.set i true) := by
  refine ⟨by rw [List.length_set]; exact h.len, fun j hj hl => ?_, fun j hj hl => ?_⟩
  · rw [List.getElem?_set]
    split
    · rename_i e; subst e; rw [if_pos (by rw [h.len]; exact hi)]
    · rename_i e
      rcases List.mem_append.1 hj with hj | hj
      · exact h.yes j hj hl
      · exact absurd (List.mem_singleton.1 hj).symm e
  · rw [List.getElem?_set_ne (fun e => hj (by subst e; simp))]
    exact h.no j (fun hm => hj (List.mem_append_left _ hm)) hl
theorem TolD.start (gs : List G3) : TolD gs [] (List.replicate gs.length false) := by
  refine ⟨by simp, (fun j h => by cases h), fun j _ hl => ?_⟩
  rw [List.getElem?_replicate, if_pos hl]
abbrev natI (L : List Nat) : List Int := L.map (fun n : Nat => (n : Int))
end Go.Proofs.Yteidpnpbfagaeaa
namespace Go.Proofs.Yteidpnpbfagaeaa
open Go Go.Lt Go.RowKit
set_option linter.unusedVariables false
set_option linter.unusedSimpArgs false
set_option maxRecDepth 20000

abbrev SzC (c : CirT) (m : Nat) : Prop := c.ins.length ≤ m ∧ c.lat.length ≤ m ∧ c.outs.length ≤ m ∧ c.bads.length ≤ m ∧ c.cons.length ≤ m ∧ c.gates.length ≤ m
theorem map_take_succ {α β : Type} {l : List α} {k : Nat} {x : α} (f : α → β) (h : l[k]? = some x) : (l.take (k + 1)).map f = (l.take k).map f ++ [f x] := by rw [take_succ' h, List.map_append]; rfl
end Go.Proofs.Yteidpnpbfagaeaa
namespace Go.Lt
open Go.RowKit
set_option linter.unusedVariables false
set_option linter.unusedSimpArgs false

section tree
variable {P : Program} {ops : Array Oper} {C : World → Prop} {early : Nat → Bool} {K : Act → World → Prop}

def wpX (P : Program) (ops : Array Oper) (C : World → Prop) (early : Nat → Bool) (K : Act → World → Prop) : Nat → Array Bool → Act → World → Prop
  | 0, listed, a, w => Region.ready .any ops listed = [] ∧ ∀ w', Ext w w' → K a w'
  | n + 1, listed, a, w => Region.ready .any ops listed ≠ [] ∧ ∀ w', Ext w w' → ∀ i ∈ Region.ready .any ops listed,
      wpOp P ops (onlyN K) i (fun a' w'' => (C w' → early i = true → C w'') ∧ wpX P ops C early K n (listed.setIfInBounds i true) a' w'') a w'

theorem wpX_ext : ∀ {n : Nat} {listed : Array Bool} {a : Act} {w w2 : World} (_ : Ext w w2), wpX P ops C early K n listed a w → wpX P ops C early K n listed a w2
  | 0, _, _, _, _, hx, h => ⟨h.1, fun w' h' => h.2 w' (hx.trans h')⟩
  | _ + 1, _, _, _, _, hx, h => ⟨h.1, fun w' h' => h.2 w' (hx.trans h')⟩

theorem wpAny_of_X {Q : Exit → Act → World → Prop} (hQ : ∀ a w, K a w → Q .normal a w) : ∀ (fuel : Nat) (listed : Array Bool) (a : Act) (w : World), wpX P ops C early K fuel listed a w → wpAny P .any ops Q fuel listed a w
  | 0, _, _, w, h => ⟨h.1, hQ _ _ (h.2 w (Ext.refl w))⟩
  | fuel + 1, _, _, w, h => ⟨fun h0 => absurd h0 h.1, fun i hi => wpOp_mono' (fun a w hh => wpAny_of_X hQ fuel _ a w hh.2) (h.2 w (Ext.refl w) i hi)⟩

/-- The step yields v, and only makes memory. -/
def PureAt (P : Program) (s : Sem Next) (w : World) (v : Value) : Prop :=
  s.run P w = .ok (.value v) w ∨ ∃ f args, s.run P w = .ok (.enter f args) w ∧ Calls P f args w (fun x w' => x = .returned v ∧ Ext w w')

def PYields (P : Program) (ops : Array Oper) (C : World → Prop) (o : Oper) (v : Value) (a : Act) : Prop :=
  (Region.wanted o (yielded ops a.tmps) = true ∧ ∀ w, C w → PureAt P (execOp a.eval o) w v) ∨ (Region.wanted o (yielded ops a.tmps) = false ∧ v = undef)

theorem PYields.wpOp {i : Nat} {o : Oper} {v : Value} {a : Act} {w : World} {Q : Exit → Act → World → Prop} {K' : Act → World → Prop} (hi : ops[i]? = some o) (hy : PYields P ops C o v a) (hC : C w) (h : ∀ w', Ext w w' → K' (a.put o.dst v) w') : wpOp P ops Q i K' a w := by
  unfold Go.wpOp
  simp only [hi]
  rcases hy with ⟨hw, hv⟩ | ⟨hw, rfl⟩
  · simp only [hw, if_true]
    refine .inl ?_
    unfold Oper.wp
    rcases hv w hC with hv | ⟨f, args, hv, hc⟩
    · rw [hv]; exact h w (Ext.refl w)
    · rw [hv]
      refine Calls.mono hc ?_
      rintro x w' ⟨rfl, hx⟩
      exact h w' hx
  · simp only [hw, Bool.false_eq_true, if_false]; exact h w (Ext.refl w)

theorem PYields.of_same {o : Oper} {v : Value} {a a' : Act} (hy : PYields P ops C o v a) (he : execOp a'.eval o = execOp a.eval o)
    (hw : Region.wanted o (yielded ops a'.tmps) = Region.wanted o (yielded ops a.tmps)) : PYields P ops C o v a' := by
  unfold PYields at *
  rw [he, hw]
  exact hy

theorem wpOp_putX {j : Nat} {oi oj : Oper} {v : Value} {C : World → Prop} (hj : ops[j]? = some oj) (hap : oi.apart ops oj = true)
    (hsi : ∀ cs b, oi.op ≠ .select cs b) (hsj : ∀ cs b, oj.op ≠ .select cs b) {K0 K1 : Act → World → Prop} {a : Act} {w : World}
    (hy : PYields P ops C oi v a) (h : wpOp P ops (onlyN K0) j K1 (a.put oi.dst v) w) :
    wpOp P ops (onlyN K0) j (fun a' w' => PYields P ops C oi v a' ∧ K1 (a'.put oi.dst v) w') a w := by
  obtain ⟨h1, h2, h3⟩ := Oper.apart_spec hap
  have keep : ∀ u, PYields P ops C oi v (a.put oj.dst u) := fun u => hy.of_same (execOp_put oi hsi a oj.dst u h3) (wanted_put oi a oj.dst u h3)
  have swap : ∀ u, (a.put oi.dst v).put oj.dst u = (a.put oj.dst u).put oi.dst v := fun u => Act.put_comm a v u h2
  have lets : ¬ LetsOut (onlyN K0) := fun ⟨_, _, hq⟩ => hq
  unfold Go.wpOp at *
  simp only [hj] at *
  rw [wanted_put oj a oi.dst v h1] at h
  split
  · rename_i hw
    simp only [hw, if_true] at h
    rcases h with h | ⟨_, hq⟩
    · refine .inl ?_
      unfold Oper.wp at h ⊢
      rw [execOp_put oj hsj a oi.dst v h1] at h
      revert h
      generalize (execOp a.eval oj).run P w = r
      intro h
      unfold Oper.upon at h ⊢
      split at h
      · exact ⟨keep _, by rw [← swap]; exact h⟩
      · exact ⟨keep _, by rw [← swap]; exact h⟩
      · rename_i d w'
        have e1 : ({ a with defers := d :: a.defers }.put oj.dst undef).put oi.dst v = { a.put oi.dst v with defers := d :: (a.put oi.dst v).defers }.put oj.dst undef := by
          rw [Act.put_comm _ undef v (fun q hq hh => h2 q hh hq)]
          cases oi.dst <;> rfl
        have e2 : PYields P ops C oi v ({ a with defers := d :: a.defers }.put oj.dst undef) := by
          refine (keep undef).of_same ?_ ?_
          · cases oj.dst <;> rfl
          · cases oj.dst <;> rfl
        exact ⟨e2, by rw [e1]; exact h⟩
      · refine Calls.mono h fun x w'' hx => ?_
        cases x with
        | returned u => exact ⟨keep _, by rw [← swap]; exact hx⟩
        | panicked c => exact hx.elim
        | outgrown => exact (lets hx).elim
      · exact Rows.mono h fun u w'' hx => ⟨keep _, by rw [← swap]; exact hx⟩
      · exact h.elim
      · exact h
    · exact (lets hq).elim
  · rename_i hw
    simp only [hw] at h
    exact ⟨keep _, by rw [← swap]; exact h⟩

theorem wpX_first {i : Nat} {oi : Oper} {v : Value} {b : Bool} (hup : ∀ w w', C w → Ext w w' → C w') (hi : ops[i]? = some oi) (hsel : ∀ (j : Nat) (o : Oper) cs b, ops[j]? = some o → o.op ≠ .select cs b) :
    ∀ (fuel : Nat) (listed : Array Bool) (a : Act) (w : World), (b = true ∨ C w) →
      (∀ j oj, ops[j]? = some oj → j ≠ i → listed.getD j true = false → (∀ e ∈ oj.after, Region.binds .any e = true → e.on ≠ i) → oi.apart ops oj = true ∧ (b = true ∨ early j = true)) →
      i ∈ Region.ready .any ops listed → PYields P ops (fun w => b = true ∨ C w) oi v a →
      wpX P ops C early K fuel (listed.setIfInBounds i true) (a.put oi.dst v) w → wpX P ops C early K (fuel + 1) listed a w := by
  intro fuel
  induction fuel with
  | zero =>
    intro listed a w hC _ hr hy H
    refine ⟨fun h => (by rw [h] at hr; cases hr), fun w1 hx j hj => ?_⟩
    by_cases hji : j = i
    · subst hji; exact hy.wpOp hi (hC.imp id fun h => hup _ _ h hx) fun w' hx' => ⟨fun hc _ => hup _ _ hc hx', wpX_ext (hx.trans hx') H⟩
    · have := ready_mono hj hji
      rw [H.1] at this
      cases this
  | succ fuel ih =>
    intro listed a w hC hfree hr hy H
    refine ⟨fun h => (by rw [h] at hr; cases hr), fun w1 hx j hj => ?_⟩
    by_cases hji : j = i
    · subst hji; exact hy.wpOp hi (hC.imp id fun h => hup _ _ h hx) fun w' hx' => ⟨fun hc _ => hup _ _ hc hx', wpX_ext (hx.trans hx') H⟩
    · have h1 := H.2 w1 hx j (ready_mono hj hji)
      obtain ⟨hjun, oj, hoj, hall⟩ := mem_ready.1 hj
      have hnot : ∀ e ∈ oj.after, Region.binds .any e = true → e.on ≠ i := fun e he hb heq => by
        have h1 := hall e he hb
        have h0 := (mem_ready.1 hr).1
        rw [heq] at h1
        rcases Nat.lt_or_ge i listed.size with h' | h'
        · simp [h'] at h0 h1; rw [h0] at h1; cases h1
        · simp [Array.getElem?_eq_none h'] at h1
      obtain ⟨hap, hea⟩ := hfree j oj hoj hji hjun hnot
      have h2 := wpOp_putX hoj hap (fun cs b => hsel i oi cs b hi) (fun cs b => hsel j oj cs b hoj) hy h1
      have hfree' : ∀ k ok, ops[k]? = some ok → k ≠ i → (listed.setIfInBounds j true).getD k true = false →
          (∀ e ∈ ok.after, Region.binds .any e = true → e.on ≠ i) → oi.apart ops ok = true ∧ (b = true ∨ early k = true) := fun k ok hk hki hun hno => by
        refine hfree k ok hk hki ?_ hno
        by_cases hjk : j = k
        · subst hjk; exact hjun
        · rw [getD_set_ne true hjk] at hun; exact hun
      refine wpOp_mono' (fun a' w' h3 => ⟨h3.2.1, ih (listed.setIfInBounds j true) a' w' ?_ hfree' (ready_mono hr (Ne.symm hji)) h3.1 ?_⟩) h2
      · rcases hea with hb | hea
        · exact .inl hb
        · rcases hC with hb | hc
          · exact .inl hb
          · exact .inr (h3.2.1 (hup _ _ hc hx) hea)
      · rw [Array.setIfInBounds_comm _ _ hji]
        exact h3.2.2

def wpY (P : Program) (ops : Array Oper) (C : World → Prop) (early : Nat → Bool) (K : Act → World → Prop) : Strat → Act → World → Prop
  | .done, a, w => ∀ w', Ext w w' → K a w'
  | .fl b i k, a, w => ∃ o, ops[i]? = some o ∧ ∃ v, PYields P ops (fun w => b = true ∨ C w) o v a ∧ (b = true ∨ C w) ∧ wpY P ops C early K k (a.put o.dst v) w
  | .br i k more, a, w => (∃ o, ops[i]? = some o ∧ ∀ w', Ext w w' → wpList P ops (onlyN fun a' w'' => (early i = true → C w'') ∧ wpY P ops C early K k a' w'') [o] a w') ∧ wpY P ops C early K more a w
  | .stop, _, _ => True

theorem wpY_ext (hup : ∀ w w', C w → Ext w w' → C w') : ∀ {s : Strat} {a : Act} {w w2 : World} (_ : Ext w w2), wpY P ops C early K s a w → wpY P ops C early K s a w2
  | .done, _, _, _, hx, h => fun w' h' => h w' (hx.trans h')
  | .fl b i k, _, _, _, hx, ⟨o, ho, v, h1, h2, h3⟩ => ⟨o, ho, v, h1, h2.imp id fun h => hup _ _ h hx, wpY_ext hup hx h3⟩
  | .br i k more, _, _, _, hx, ⟨⟨o, ho, h1⟩, h2⟩ => ⟨⟨o, ho, fun w' h' => h1 w' (hx.trans h')⟩, wpY_ext hup hx h2⟩
  | .stop, _, _, _, _, _ => trivial

theorem stratX_all (hup : ∀ w w', C w → Ext w w' → C w') (hsel : ∀ (j : Nat) (o : Oper) cs b, ops[j]? = some o → o.op ≠ .select cs b) : ∀ (s : Strat),
    (∀ (L : Array Bool) (a : Act) (w : World), stratB ops early true s L = true → wpY P ops C early K s a w → wpX P ops C early K (slen s) L a w) ∧
    (∀ (L : Array Bool) (a : Act) (w : World) (n : Nat), stratB ops early false s L = true → (isStop s = true ∨ slen s = n + 1) → wpY P ops C early K s a w → ∀ i ∈ heads s, ∀ w', Ext w w' →
      wpOp P ops (onlyN K) i (fun a' w'' => (C w' → early i = true → C w'') ∧ wpX P ops C early K n (L.setIfInBounds i true) a' w'') a w')
  | .done => ⟨fun L a w hB h => ⟨by simpa [stratB] using hB, h⟩, fun L a w n hB => by simp [stratB] at hB⟩
  | .stop => ⟨fun L a w hB => by simp [stratB] at hB, fun L a w n hB hn h i hi => by simp [heads] at hi⟩
  | .fl b i k => by
    refine ⟨fun L a w hB h => ?_, fun L a w n hB => by simp [stratB] at hB⟩
    obtain ⟨o, ho, v, h1, h2, h3⟩ := h
    simp only [stratB, ho, Bool.true_and, Bool.and_eq_true] at hB
    obtain ⟨⟨hB1, hB2⟩, hB3⟩ := hB
    have hfree : ∀ j oj, ops[j]? = some oj → j ≠ i → L.getD j true = false → (∀ e ∈ oj.after, Region.binds .any e = true → e.on ≠ i) → o.apart ops oj = true ∧ (b = true ∨ early j = true) := by
      intro j oj hj hji hun hno
      have hjlt : j < ops.size := (Array.getElem?_eq_some_iff.1 hj).1
      have := List.all_eq_true.1 hB2 j (List.mem_range.2 hjlt)
      simp only [hj, Bool.or_eq_true, beq_iff_eq, hji, hun, Bool.false_eq_true, false_or, Bool.and_eq_true] at this
      rcases this with hw | hw
      · exfalso
        simp only [waits, hj] at hw
        obtain ⟨e, he, hb⟩ := Array.any_eq_true'.1 hw
        simp only [Bool.and_eq_true, beq_iff_eq] at hb
        exact hno e he hb.1 hb.2
      · exact hw
    exact wpX_first hup ho hsel (slen k) L a w h2 hfree (by simpa using hB1) h1 ((stratX_all hup hsel k).1 _ _ _ hB3 h3)
  | .br i k more => by
    have key : ∀ (L : Array Bool) (a : Act) (w : World), stratB ops early true k (L.setIfInBounds i true) = true →
        (∃ o, ops[i]? = some o ∧ ∀ w', Ext w w' → wpList P ops (onlyN fun a' w'' => (early i = true → C w'') ∧ wpY P ops C early K k a' w'') [o] a w') → ∀ w', Ext w w' →
        wpOp P ops (onlyN K) i (fun a' w'' => (C w' → early i = true → C w'') ∧ wpX P ops C early K (slen k) (L.setIfInBounds i true) a' w'') a w' := by
      rintro L a w hB ⟨o, ho, h⟩ w1 hx
      refine wpOp_of_list ho (h w1 hx) _ fun a' w' h' => ?_
      have h'' : (early i = true → C w') ∧ wpY P ops C early K k a' w' := h'
      exact ⟨fun _ he => h''.1 he, (stratX_all hup hsel k).1 _ _ _ hB h''.2⟩
    refine ⟨fun L a w hB h => ?_, fun L a w n hB hn h => ?_⟩
    · simp only [stratB, Bool.not_true, Bool.false_or, Bool.and_eq_true, beq_iff_eq, Bool.or_eq_true] at hB
      obtain ⟨⟨⟨hB1, hB2⟩, hB3⟩, hB4⟩ := hB
      refine ⟨by rw [hB1]; simp, fun w1 hx j hj => ?_⟩
      rw [hB1] at hj
      rcases List.mem_cons.1 hj with rfl | hj
      · exact key L a w hB3 h.1 w1 hx
      · refine (stratX_all hup hsel more).2 L a w (slen k) hB4 ?_ h.2 j hj w1 hx
        rcases hB2 with hB2 | hB2
        · exact .inl hB2
        · exact .inr (Nat.eq_of_beq_eq_true hB2)
    · simp only [stratB, Bool.not_false, Bool.true_or, Bool.true_and, Bool.and_eq_true, Bool.or_eq_true] at hB
      obtain ⟨⟨hB2, hB3⟩, hB4⟩ := hB
      have hk : slen k = n := by
        rcases hn with hn | hn
        · cases hn
        · exact Nat.succ.inj hn
      subst hk
      intro j hj w1 hx
      rcases List.mem_cons.1 hj with rfl | hj
      · exact key L a w hB3 h.1 w1 hx
      · refine (stratX_all hup hsel more).2 L a w (slen k) hB4 ?_ h.2 j hj w1 hx
        rcases hB2 with hB2 | hB2
        · exact .inl hB2
        · exact .inr (Nat.eq_of_beq_eq_true hB2)
end tree

structure SX (P : Program) (N : Nat) (l : List Oper) (w0 : World) (early : Nat → Bool) (s : Strat) (e : Env) (w : World) (Q : Exit → Act → World → Prop) : Prop where
  go : ∀ a, Fit N e a → wpY P l.toArray (Ext w0) early (fun a w => Q .normal a w) s a w
theorem ext_up (w0 : World) : ∀ w w', Ext w0 w → Ext w w' → Ext w0 w' := fun _ _ h k => h.trans k

section rules
variable {P : Program} {N : Nat} {e : Env} {w w0 : World} {Q : Exit → Act → World → Prop} {l : List Oper} {early : Nat → Bool} {s k more : Strat} {o : Oper} {i : Nat}
theorem W.regionGX {id : Nat} (s : Strat) (E : List Nat) (hm : P.follows .mixedOrders = true) (hB : (Region.noSelect l.toArray && Nat.beq (slen s) l.toArray.size && stratB l.toArray (memN E) true s (Array.replicate l.toArray.size false)) = true)
    (h : SX P N l w (memN E) s e w Q) : W P N (.region id l.toArray true) e w Q := by
  refine ⟨fun a m hf => wp_region_any hm ?_⟩
  simp only [Bool.and_eq_true] at hB
  obtain ⟨⟨hB1, hB2⟩, hB3⟩ := hB
  have hsel : ∀ (j : Nat) (o : Oper) cs b, l.toArray[j]? = some o → o.op ≠ .select cs b := fun j o cs b ho => Region.noSelect_spec hB1 j o cs b ho
  have hsz := Nat.eq_of_beq_eq_true hB2
  have key := (stratX_all (P := P) (C := Ext w) (K := fun a w => Q .normal a w) (ext_up w) hsel s).1 _ _ _ hB3 (h.go a hf)
  rw [hsz] at key
  exact wpAny_of_X (K := fun a w => Q .normal a w) (C := Ext w) (early := memN E) (fun _ _ h => h) _ _ _ _ (wpX_ext (w := w) ((Ext.refl w).at (m + 1)) key)
theorem SX.done (h : ∀ w', Ext w w' → Z N Q .normal e w') : SX P N l w0 early .done e w Q := ⟨fun a hf w' hx => (h w' hx).go a w'.drawn hf⟩
theorem SX.stop : SX P N l w0 early .stop e w Q := ⟨fun a hf => trivial⟩
theorem SX.fl0 (ho : nthO l i = some o) (h : FL P N l.toArray (fun _ => True) [o] e w (fun a => wpY P l.toArray (Ext w0) early (fun a w => Q .normal a w) k a w)) : SX P N l w0 early (.fl true i k) e w Q := by
  refine ⟨fun a hf => ⟨o, nthO_eq ho, ?_⟩⟩
  have := h.go a hf
  unfold wpFl at this
  split at this
  · rename_i hw
    obtain ⟨v, h1, h2⟩ := this
    exact ⟨v, .inl ⟨hw, fun w' _ => .inl (h1 w' trivial)⟩, .inl rfl, h2⟩
  · rename_i hw
    exact ⟨undef, .inr ⟨by simpa using hw, rfl⟩, .inl rfl, this⟩
theorem SX.fl1 (ho : nthO l i = some o) (hC : Ext w0 w) (h : FL P N l.toArray (Ext w0) [o] e w (fun a => wpY P l.toArray (Ext w0) early (fun a w => Q .normal a w) k a w)) : SX P N l w0 early (.fl false i k) e w Q := by
  refine ⟨fun a hf => ⟨o, nthO_eq ho, ?_⟩⟩
  have := h.go a hf
  unfold wpFl at this
  split at this
  · rename_i hw
    obtain ⟨v, h1, h2⟩ := this
    exact ⟨v, .inl ⟨hw, fun w' hc => .inl (h1 w' (hc.resolve_left (by simp)))⟩, .inr hC, h2⟩
  · rename_i hw
    exact ⟨undef, .inr ⟨by simpa using hw, rfl⟩, .inr hC, this⟩
theorem FL.nilX {opsA : Array Oper} {C' : World → Prop} (h : SX P N l w0 early k e w Q) : FL P N opsA C' [] e w (fun a => wpY P l.toArray (Ext w0) early (fun a w => Q .normal a w) k a w) := ⟨fun a hf => h.go a hf⟩
theorem SX.br (ho : nthO l i = some o) (h : ∀ w', Ext w w' → WL P N l.toArray [o] e w' (onlyN fun a' w'' => (early i = true → Ext w0 w'') ∧ wpY P l.toArray (Ext w0) early (fun a w => Q .normal a w) k a' w'')) (hm : SX P N l w0 early more e w Q) : SX P N l w0 early (.br i k more) e w Q :=
  ⟨fun a hf => ⟨⟨o, nthO_eq ho, fun w' hx => (h w' hx).go a w'.drawn hf⟩, hm.go a hf⟩⟩
theorem SX.br1 (ho : nthO l i = some o) (h : ∀ w', Ext w w' → WL P N l.toArray [o] e w' (onlyN fun a' w'' => (early i = true → Ext w0 w'') ∧ wpY P l.toArray (Ext w0) early (fun a w => Q .normal a w) k a' w'')) : SX P N l w0 early (.br i k .stop) e w Q := SX.br ho h SX.stop
theorem Z.sx (hC : early i = true → Ext w0 w) (h : SX P N l w0 early k e w Q) : Z N (onlyN fun a' w'' => (early i = true → Ext w0 w'') ∧ wpY P l.toArray (Ext w0) early (fun a w => Q .normal a w) k a' w'') .normal e w :=
  ⟨fun a m hf => ⟨fun he => (hC he).at m, wpY_ext (ext_up w0) ((Ext.refl w).at m) (h.go a hf)⟩⟩
theorem Z.sxE (hC : Ext w0 w) (h : SX P N l w0 early k e w Q) : Z N (onlyN fun a' w'' => (early i = true → Ext w0 w'') ∧ wpY P l.toArray (Ext w0) early (fun a w => Q .normal a w) k a' w'') .normal e w := Z.sx (fun _ => hC) h
end rules
end Go.Lt
namespace Go.Proofs.Yteidpnpbfagaeaa
open Go Go.Lt Go.RowKit
set_option linter.unusedVariables false
set_option linter.unusedSimpArgs false
set_option maxRecDepth 20000

theorem chk_5 {c : CirT} (h : BadMax c ∨ BadOwn c ∨ BadUse c ∨ BadRes c) : chkC c = 5 := by unfold chkC; rw [if_pos h]
theorem chk_7 {c : CirT} (h5 : ¬ (BadMax c ∨ BadOwn c ∨ BadUse c ∨ BadRes c)) (h : Twice c) : chkC c = 7 := by unfold chkC; rw [if_neg h5, if_pos h]
theorem chk_9 {c : CirT} (h5 : ¬ (BadMax c ∨ BadOwn c ∨ BadUse c ∨ BadRes c)) (h7 : ¬ Twice c) (h : NoneC c) : chkC c = 9 := by unfold chkC; rw [if_neg h5, if_neg h7, if_pos h]
theorem chk_8 {c : CirT} (h5 : ¬ (BadMax c ∨ BadOwn c ∨ BadUse c ∨ BadRes c)) (h7 : ¬ Twice c) (h9 : ¬ NoneC c) (h : (ordL c.gates).length < c.gates.length) : chkC c = 8 := by unfold chkC; rw [if_neg h5, if_neg h7, if_neg h9, if_pos h]
theorem chk_0 {c : CirT} (h5 : ¬ (BadMax c ∨ BadOwn c ∨ BadUse c ∨ BadRes c)) (h7 : ¬ Twice c) (h9 : ¬ NoneC c) (h : ¬ (ordL c.gates).length < c.gates.length) : chkC c = 0 := by unfold chkC; rw [if_neg h5, if_neg h7, if_neg h9, if_neg h]
end Go.Proofs.Yteidpnpbfagaeaa
namespace Go.Proofs.Yteidpnpbfagaeaa
open Go Go.Lt Go.RowKit
set_option linter.unusedVariables false
set_option linter.unusedSimpArgs false
set_option maxRecDepth 20000

abbrev fnv (f : Nat) (us : List Value) : Value := .func (.func f) #[] us.toArray
theorem slices_IndexFunc (a : Option Addr) (cap : Nat) (l : List Int) (f : Nat) (us : List Value) (p : Int → Bool) (w w0 : World) (R : Row 1 encI w0 a l) (E : Ext w0 w)
    (hf : ∀ x ∈ l, Still Try.prog f ([.int .i64 x] ++ us) w (.bool (p x))) :
    Still Try.prog 159 [.slice a l.length cap, fnv f us] w (.int .i64 (if l.findIdx p < l.length then (l.findIdx p : Int) else -1)) := by
  have hlen := R.len
  refine Spec.of _ Try.func159 rfl Try.ntmps159 (by kernel_rfl) rfl ?_
  repeat' (first
    | (show WL _ _ _ _ _ _ _; first | apply WL.nil | (refine WL.au (k := ?_)))
    | (show Z _ _ _ _ _; apply Z.then_normal)
    | (show W _ _ _ _ _ _; first | apply W.seq | apply W.region | apply W.block)
    | fail)
  refine W.loop1 l.length (fun k => k ≤ l.length ∧ ∀ i x, i < k → l[i]? = some x → p x = false) (fun k => [(0, .slice a l.length cap), (1, fnv f us), (7, .int .i64 l.length), (8, .int .i64 k)]) ⟨by omega, fun i x hi => by omega⟩ (fun k h => h.1) ⟨rfl, rfl, rfl, rfl, trivial⟩ ?_
  rintro k ⟨hk, hno⟩
  by_cases hlt : k < l.length
  · obtain ⟨x, hx⟩ := getI l hlt
    have hfx := hf x (List.mem_of_getElem? hx)
    have hlx : l[k] = x := by rw [List.getElem?_eq_getElem hlt] at hx; exact Option.some.inj hx
    cases hp : p x with
    | true =>
      rw [hp] at hfx
      repeat' (first
        | (apply W.condKT; exact rfl; (focus (exact dec_true (by omega); done)))
        | (apply WL.callS; (iterate 4 exact rfl); exact hfx)
        | (show WL _ _ _ _ _ _ _; first | apply WL.nil | (refine WL.au (k := ?_)) | (apply WL.index tOk; (iterate 8 exact rfl); assumption; (exact extA); exact rfl; omega; assumption; intro b off h; have hcc := h; first | (obtain ⟨h1, h2, h3, h4, h5, h6, _⟩ := h) | (obtain ⟨h1, h2, h3, _⟩ := h) | (obtain ⟨h1, h2, _⟩ := h) | (obtain ⟨h1, _⟩ := h)))
        | (show Z _ _ _ _ _; first | apply Z.then_normal | apply Z.then_ret | apply Z.block_ret)
        | (show W _ _ _ _ _ _; first | apply W.seq | apply W.region | apply W.block | apply W.skip | apply W.ret | (apply W.condT; exact rfl))
        | fail)
      have hi : l.findIdx p = k := by
        refine (List.findIdx_eq hlt).2 ⟨by rw [hlx]; exact hp, fun j hj => ?_⟩
        exact hno j l[j] hj (List.getElem?_eq_getElem (by omega))
      exact Z.body1 Try.results159 rfl fun m => ⟨by rw [hi, if_pos hlt], m, rfl⟩
    | false =>
      rw [hp] at hfx
      repeat' (first
        | (apply W.condKT; exact rfl; (focus (exact dec_true (by omega); done)))
        | (apply WL.callS; (iterate 4 exact rfl); exact hfx)
        | (show WL _ _ _ _ _ _ _; first | apply WL.nil | (refine WL.au (k := ?_)) | (apply WL.index tOk; (iterate 8 exact rfl); assumption; (exact extA); exact rfl; omega; assumption; intro b off h; have hcc := h; first | (obtain ⟨h1, h2, h3, h4, h5, h6, _⟩ := h) | (obtain ⟨h1, h2, h3, _⟩ := h) | (obtain ⟨h1, h2, _⟩ := h) | (obtain ⟨h1, _⟩ := h)))
        | (show Z _ _ _ _ _; first | apply Z.then_normal | apply Z.block_normal)
        | (show W _ _ _ _ _ _; first | apply W.seq | apply W.region | apply W.block | apply W.skip | (apply W.condF; exact rfl))
        | fail)
      refine Z.again1 ⟨by omega, fun i y hi hy => ?_⟩ ⟨rfl, rfl, rfl, rfl, trivial⟩
      by_cases hik : i < k
      · exact hno i y hik hy
      · obtain rfl : i = k := by omega
        rw [hx] at hy; cases hy; exact hp
  · repeat' (first
      | (apply W.condKF; exact rfl; (focus (exact dec_false (by omega); done)))
      | (show WL _ _ _ _ _ _ _; first | apply WL.nil | (refine WL.au (k := ?_)))
      | (show Z _ _ _ _ _; first | apply Z.then_normal | apply Z.then_exit | apply Z.block_exit)
      | (show W _ _ _ _ _ _; first | apply W.seq | apply W.region | apply W.ret | apply W.exit)
      | fail)
    have hi : ¬ l.findIdx p < l.length := fun h => by
      have := List.findIdx_getElem (w := h)
      rw [hno (l.findIdx p) _ (by omega) (List.getElem?_eq_getElem h)] at this
      cases this
    exact Z.body1 Try.results159 rfl fun m => ⟨by rw [if_neg hi], m, rfl⟩

end Go.Proofs.Yteidpnpbfagaeaa
namespace Go.Proofs.Yteidpnpbfagaeaa
open Go Go.Lt Go.RowKit
set_option linter.unusedVariables false
set_option linter.unusedSimpArgs false
set_option maxRecDepth 20000

abbrev kvN : Int × Int → Value := fun x => .agg (encN x).toArray
abbrev vvI : Int → Value := fun n => .int .i64 n
theorem encN_inj (a b : Int × Int) (h : encN a = encN b) : a = b := by
  simp only [encN, List.cons.injEq, Value.int.injEq, true_and, and_true] at h
  exact Prod.ext h.1 h.2
theorem keyN : KeyOk Try.prog 105 kvN := by
  apply keyOk_struct tOk encN
  · exact rfl
  · exact rfl
  · kernel_rfl
  · intro a b; exact rfl
  · intro a; exact rfl
  · exact encN_inj

/-- Where the gates of a net are, by what they are. -/
def gm (N : List (Int × Int)) : Nat → List ((Int × Int) × Int)
  | 0 => []
  | k + 1 => match N[k]? with | some x => if 0 ≤ x.1 then gm N k ++ [(x, 2 * ((k : Int) + 1))] else gm N k | none => gm N k
/-- The store that lies at gs. -/
abbrev stP (B gs : Nat) (a : Option Addr) (cap r : Nat) (N : List (Int × Int)) (M : List ((Int × Int) × Int)) : List Piece :=
  [pcell gs #[.slice a N.length cap, .map (some r)] 142, prow 2 encN 105 B a cap N, pmap kvN vvI r M]

set_option maxHeartbeats 4000000 in
theorem aig_put (gs r cap : Nat) (a : Option Addr) (N : List (Int × Int)) (M : List ((Int × Int) × Int)) (x : Int × Int) (rest : List Piece) (w w0 : World) (hX : Ext w0 w) (hS : Sep w0.heap.size w (stP w0.heap.size gs a cap r N M ++ rest)) (hN : N.length < 1048576) :
    Lt.Spec Try.prog 143 [.pointer (some ⟨gs, 0, none⟩), .agg (encN x).toArray] w (fun v w' => Ext w0 w' ∧ ∃ a' cap', v = .int .i64 (2 * ((N.length : Int) + 1)) ∧ Sep w0.heap.size w' (stP w0.heap.size gs a' cap' r (N ++ [x]) M ++ rest)) := by
  have hR1 := hS.row (i := 1) rfl
  have hC0 := hS.cell (i := 0) rfl
  have hgs := (hS.lt (i := 0) rfl rfl)
  obtain ⟨hD0, hD1, _⟩ := cells_heap hC0
  have hBC : ∀ k, blk a = some k → w0.heap.size ≤ k := fun k hk => (hR1.blk_lt k hk).1
  have hne : blk a ≠ some gs := fun h => by
    rcases hS.apart 1 0 _ _ rfl rfl (by decide) with h1 | h1
    · rw [show (prow 2 encN 105 w0.heap.size a cap N).b = blk a from rfl] at h1; rw [h1] at h; cases h
    · exact h1 h
  refine Spec.of _ Try.func143 rfl Try.ntmps143 (by kernel_rfl) rfl ?_
  repeat' (first
    | (apply WL.box; (iterate 3 exact rfl); intro gb w' hb hge hc hx; have hcc := hc; (first | (obtain ⟨h1, h2, h3, _⟩ := hc) | (obtain ⟨h1, h2, _⟩ := hc)))
    | (apply WL.nilc; (iterate 3 exact rfl))
    | (apply W.condKF; exact rfl; (focus (exact dec_false (by omega); done)))
    | (show WL _ _ _ _ _ _ _; first | apply WL.nil | (refine WL.au (k := ?_)))
    | (show Z _ _ _ _ _; apply Z.then_normal)
    | (show W _ _ _ _ _ _; first | apply W.seq | apply W.region | apply W.skip)
    | fail)
  have hx1 := hx
  obtain ⟨g3, rfl⟩ : ∃ x, x = gb := ⟨_, rfl⟩
  have hnx : blk a ≠ some g3 := fun h => by have := (hR1.blk_lt g3 h).2; omega
  have hD0' := hx1.cell hD0
  have hNl : (N ++ [x]).length = N.length + 1 := by simp
  repeat' (first
    | (apply WL.nilc; (iterate 3 exact rfl))
    | (apply FL.nilc; (iterate 3 exact rfl))
    | (apply W.regionF [0, 1, 2, 3, 4, 5] [6, 7, 8, 9] [10] (But _ (blk a)) tMix; kernel_rfl; (iterate 3 exact rfl); exact fun m => But.at _ _ m)
    | (apply WL.lit tOk; (iterate 6 exact rfl); (first | exact rfl | kernel_rfl | (simp [Instr.fill, catCells]; done)); exact rfl; intro gb w' hb hge hc hx)
    | (apply WL.append1 (z := (x)) tOk encN_ok; (iterate 10 exact rfl); assumption; (exact extA); (first | exact rfl | (focus (simp only [List.length_set]; done)) | (focus (simp; done)) | (focus (simp [*]; done)) | omega | (focus (simp only [List.length_set]; omega))); (first | assumption | (refine Cells.ext ?_ (by assumption); exact extA)); exact rfl; exact rfl; (exact extA); (first | omega | (simp; omega) | (simp at *; omega)); intro a' cap' w' hO hX' hU hF; (first | replace hS := Sep.updRow (i := 0) rfl hU hO hF hS (by (exact extA)) (by (first | exact Nat.le_refl _ | exact Below.size (by (exact extA)))) | replace hS := Sep.updRow (i := 1) rfl hU hO hF hS (by (exact extA)) (by (first | exact Nat.le_refl _ | exact Below.size (by (exact extA)))) | replace hS := Sep.updRow (i := 2) rfl hU hO hF hS (by (exact extA)) (by (first | exact Nat.le_refl _ | exact Below.size (by (exact extA)))) | replace hS := Sep.updRow (i := 3) rfl hU hO hF hS (by (exact extA)) (by (first | exact Nat.le_refl _ | exact Below.size (by (exact extA)))) | replace hS := Sep.updRow (i := 4) rfl hU hO hF hS (by (exact extA)) (by (first | exact Nat.le_refl _ | exact Below.size (by (exact extA)))) | replace hS := Sep.updRow (i := 5) rfl hU hO hF hS (by (exact extA)) (by (first | exact Nat.le_refl _ | exact Below.size (by (exact extA))))); (try simp only [List.set_cons_zero, List.set_cons_succ] at hS); (try have hR0 := hS.row (i := 0) rfl); (try have hR1 := hS.row (i := 1) rfl); (try have hR2 := hS.row (i := 2) rfl); (try have hR3 := hS.row (i := 3) rfl); (try have hR4 := hS.row (i := 4) rfl); (try have hC0 := hS.cell (i := 0) rfl); (try have hD0 := (cells_heap hC0).1); (try have hE0 := (cells_heap hC0).2.1); (try have hF0 := (cells_heap hC0).2.2.1); (try have hG0 := (cells_heap hC0).2.2.2.1); (try have hC1 := hS.cell (i := 1) rfl); (try have hD1 := (cells_heap hC1).1); (try have hE1 := (cells_heap hC1).2.1); (try have hF1 := (cells_heap hC1).2.2.1); (try have hG1 := (cells_heap hC1).2.2.2.1); (try have hC2 := hS.cell (i := 2) rfl); (try have hD2 := (cells_heap hC2).1); (try have hE2 := (cells_heap hC2).2.1); (try have hF2 := (cells_heap hC2).2.2.1); (try have hG2 := (cells_heap hC2).2.2.2.1); (try have hC3 := hS.cell (i := 3) rfl); (try have hD3 := (cells_heap hC3).1); (try have hE3 := (cells_heap hC3).2.1); (try have hF3 := (cells_heap hC3).2.2.1); (try have hG3 := (cells_heap hC3).2.2.2.1); (try have hC4 := hS.cell (i := 4) rfl); (try have hD4 := (cells_heap hC4).1); (try have hE4 := (cells_heap hC4).2.1); (try have hF4 := (cells_heap hC4).2.2.1); (try have hG4 := (cells_heap hC4).2.2.2.1); (try have hM0 := hS.map (i := 0) rfl); (try have hM1 := hS.map (i := 1) rfl); (try have hM2 := hS.map (i := 2) rfl); (try have hM3 := hS.map (i := 3) rfl); (try have hM4 := hS.map (i := 4) rfl))
    | (apply WL.storeF (w0 := w0) tOk; (iterate 4 exact rfl); assumption; (exact extA); (iterate 4 exact rfl); (exact extA); (first | assumption | omega | (focus (apply Nat.le_trans; rotate_left; assumption; exact Below.size (by (exact extA))))); intro w' hb hX' hU; replace hS := Sep.updCell (i := 0) rfl hU hb hS (by (exact extA)) (by (first | exact Nat.le_refl _ | exact Below.size (by (exact extA)))); (try simp only [List.set_cons_zero, List.set_cons_succ] at hS); (try have hR0 := hS.row (i := 0) rfl); (try have hR1 := hS.row (i := 1) rfl); (try have hR2 := hS.row (i := 2) rfl); (try have hR3 := hS.row (i := 3) rfl); (try have hR4 := hS.row (i := 4) rfl); (try have hC0 := hS.cell (i := 0) rfl); (try have hD0 := (cells_heap hC0).1); (try have hE0 := (cells_heap hC0).2.1); (try have hF0 := (cells_heap hC0).2.2.1); (try have hG0 := (cells_heap hC0).2.2.2.1); (try have hC1 := hS.cell (i := 1) rfl); (try have hD1 := (cells_heap hC1).1); (try have hE1 := (cells_heap hC1).2.1); (try have hF1 := (cells_heap hC1).2.2.1); (try have hG1 := (cells_heap hC1).2.2.2.1); (try have hC2 := hS.cell (i := 2) rfl); (try have hD2 := (cells_heap hC2).1); (try have hE2 := (cells_heap hC2).2.1); (try have hF2 := (cells_heap hC2).2.2.1); (try have hG2 := (cells_heap hC2).2.2.2.1); (try have hC3 := hS.cell (i := 3) rfl); (try have hD3 := (cells_heap hC3).1); (try have hE3 := (cells_heap hC3).2.1); (try have hF3 := (cells_heap hC3).2.2.1); (try have hG3 := (cells_heap hC3).2.2.2.1); (try have hC4 := hS.cell (i := 4) rfl); (try have hD4 := (cells_heap hC4).1); (try have hE4 := (cells_heap hC4).2.1); (try have hF4 := (cells_heap hC4).2.2.1); (try have hG4 := (cells_heap hC4).2.2.2.1); (try have hM0 := hS.map (i := 0) rfl); (try have hM1 := hS.map (i := 1) rfl); (try have hM2 := hS.map (i := 2) rfl); (try have hM3 := hS.map (i := 3) rfl); (try have hM4 := hS.map (i := 4) rfl))
    | (show WL _ _ _ _ _ _ _; first | apply WL.nil | (refine WL.au (k := ?_)))
    | (show FL _ _ _ _ _ _ _ _; first | apply FL.nil | (refine FL.au (k := ?_)) | (apply FL.load tOk; (iterate 5 exact rfl); (first | assumption | (focus (apply Ext.cell; rotate_left; assumption; (exact extA); done))); (first | (focus (intro h; cases h; done)) | (focus (intro h; have h9 := hBC _ h; (try simp only at h9); omega)) | assumption | (focus (intro h; simp only [blk, Option.map_some, Option.some.injEq] at h; omega)))) | (apply FL.loadA tOk; (iterate 5 exact rfl); (first | assumption | (focus (apply Cells.ext; rotate_left; assumption; (exact extA); done))); exact rfl; (first | (focus (intro h; cases h; done)) | (focus (intro h; have h9 := hBC _ h; (try simp only at h9); omega)) | assumption | (focus (intro h; simp only [blk, Option.map_some, Option.some.injEq] at h; omega)))))
    | (show CL _ _ _ _ _ _ _ _ _; first | apply CL.nil | apply CL.cons)
    | (show Z _ _ _ _ _; first | apply Z.only | (apply Z.early; (focus (intro m; apply But.of_at; first | exact But.upd (by assumption) | exact But.ext (by (exact extA)) | (refine But.trans ?_ (But.upd (by assumption)); exact But.ext (by (exact extA))) | exact But.at _ _ _; done))))
    | (show Z _ _ _ _ _; apply Z.then_normal)
    | (show W _ _ _ _ _ _; first | apply W.seq | apply W.region | apply W.ret)
    | fail)
  refine Z.body1 Try.results143 rfl fun m => ⟨Ext.at (by assumption) m, a', cap', ?_, hS.ext ((Ext.refl _).at m)⟩
  rw [hNl]; rfl
end Go.Proofs.Yteidpnpbfagaeaa
namespace Go.Proofs.Yteidpnpbfagaeaa
open Go Go.Lt Go.RowKit
set_option linter.unusedVariables false
set_option linter.unusedSimpArgs false
set_option maxRecDepth 20000

theorem aig_Input (gs r cap : Nat) (a : Option Addr) (N : List (Int × Int)) (M : List ((Int × Int) × Int)) (rest : List Piece) (w w0 : World) (hX : Ext w0 w) (hS : Sep w0.heap.size w (stP w0.heap.size gs a cap r N M ++ rest)) (hN : N.length < 1048576) :
    Lt.Spec Try.prog 90 [.pointer (some ⟨gs, 0, none⟩)] w (fun v w' => Ext w0 w' ∧ ∃ a' cap', v = .int .i64 (2 * ((N.length : Int) + 1)) ∧ Sep w0.heap.size w' (stP w0.heap.size gs a' cap' r (N ++ [(-1, 0)]) M ++ rest)) := by
  refine Spec.of _ Try.func90 rfl Try.ntmps90 (by kernel_rfl) rfl ?_
  repeat' (first
    | (apply WL.eqNilS tOk; (iterate 6 exact rfl))
    | (apply WL.build tOk; (iterate 7 exact rfl); kernel_rfl)
    | (((show WL _ _ _ (⟨_, .call ⟨.value (.func 143), _, _⟩, _, _, _, _⟩ :: _) _ _ _); apply WL.call; (iterate 4 exact rfl); exact aig_put gs r cap a N M (-1, 0) rest _ w0 hX hS hN; rintro v' w' ⟨hX2, a', cap', rfl, hS2⟩))
    | (show WL _ _ _ _ _ _ _; first | apply WL.nil | (refine WL.au (k := ?_)))
    | (show Z _ _ _ _ _; apply Z.then_normal)
    | (show W _ _ _ _ _ _; first | apply W.seq | apply W.region | apply W.skip | apply W.ret | (apply W.condF; exact rfl))
    | fail)
  exact Z.body1 Try.results90 rfl fun m => ⟨hX2.at m, a', cap', rfl, hS2.ext ((Ext.refl _).at m)⟩
theorem aig_Len (gs cap : Nat) (a : Option Addr) (n : Nat) (v2 : Value) (w : World) (hc : w.heap[gs]? = some (.cells #[.slice a n cap, v2] 142 (0, 0))) :
    Still Try.prog 91 [.pointer (some ⟨gs, 0, none⟩)] w (.int .i64 n) := by
  obtain ⟨h1, _⟩ := cells_heap hc
  refine Spec.of _ Try.func91 rfl Try.ntmps91 (by kernel_rfl) rfl ?_
  repeat' (first
    | (apply WL.nilc; (iterate 3 exact rfl))
    | (apply WL.eqNilS tOk; (iterate 6 exact rfl))
    | (show WL _ _ _ _ _ _ _; first | apply WL.nil | (refine WL.au (k := ?_)))
    | (show Z _ _ _ _ _; apply Z.then_normal)
    | (show W _ _ _ _ _ _; first | apply W.seq | apply W.region | apply W.skip | apply W.ret | (apply W.condF; exact rfl))
    | fail)
  exact Z.body1 Try.results91 rfl fun m => ⟨rfl, m, rfl⟩
def hasL (N : List (Int × Int)) (x : Int) : Prop := 0 ≤ x ∧ x < 2 * ((N.length : Int) + 1)
theorem aig_below (l m : Int) (w : World) (hm : 0 ≤ m ∧ m ≤ 4611686018427387903) : Still Try.prog 155 [.int .i64 l, .int .i64 m] w (.bool (dec (0 ≤ l ∧ l < 2 * m))) := by
  refine Spec.of _ Try.func155 rfl Try.ntmps155 (by kernel_rfl) rfl ?_
  repeat' (first
    | (show WL _ _ _ _ _ _ _; first | apply WL.nil | (refine WL.au (k := ?_)) | (apply WL.guardF; exact rfl; exact rfl) | (apply WL.gD; exact rfl; exact rfl; all_goals intro _))
    | (show Z _ _ _ _ _; apply Z.then_normal)
    | (show W _ _ _ _ _ _; first | apply W.seq | apply W.region | apply W.ret)
    | fail)
  all_goals (refine Z.body1 Try.results155 rfl fun m => ⟨?_, m, rfl⟩; (first | exact congrArg Value.bool (dec_true (by omega)).symm | exact congrArg Value.bool (dec_false (by omega)).symm | exact congrArg Value.bool (dec_true (by omega)) | exact congrArg Value.bool (dec_false (by omega)) | exact congrArg Value.bool (dec_congr (by omega))))
theorem aig_has1 (gs g2 cap : Nat) (a : Option Addr) (N : List (Int × Int)) (v2 : Value) (x : Int) (w : World) (hc : w.heap[gs]? = some (.cells #[.slice a N.length cap, v2] 142 (0, 0))) (h2 : w.cell? ⟨g2, 0, none⟩ = some (.pointer (some ⟨gs, 0, none⟩))) (hN : N.length ≤ 1048576) :
    Still Try.prog 154 ([.int .i64 x] ++ [.pointer (some ⟨g2, 0, none⟩)]) w (.bool (!dec (hasL N x))) := by
  obtain ⟨h1, _⟩ := cells_heap hc
  refine Spec.of _ Try.func154 rfl Try.ntmps154 (by kernel_rfl) rfl ?_
  repeat' (first
    | (apply WL.nilc; (iterate 3 exact rfl))
    | ((show WL _ _ _ (⟨_, .call ⟨.value (.func 155), _, _⟩, _, _, _, _⟩ :: _) _ _ _); apply WL.callS; (iterate 4 exact rfl); exact aig_below _ _ _ (by omega))
    | (show WL _ _ _ _ _ _ _; first | apply WL.nil | (refine WL.au (k := ?_)))
    | (show Z _ _ _ _ _; apply Z.then_normal)
    | (show W _ _ _ _ _ _; first | apply W.seq | apply W.region | apply W.ret)
    | fail)
  exact Z.body1 Try.results154 rfl fun m => ⟨rfl, m, rfl⟩
theorem slices_ContainsFunc (a : Option Addr) (cap : Nat) (l : List Int) (f : Nat) (us : List Value) (p : Int → Bool) (w w0 : World) (R : Row 1 encI w0 a l) (E : Ext w0 w)
    (hf : ∀ x ∈ l, Still Try.prog f ([.int .i64 x] ++ us) w (.bool (p x))) :
    Still Try.prog 153 [.slice a l.length cap, fnv f us] w (.bool (dec (∃ x ∈ l, p x = true))) := by
  refine Spec.of _ Try.func153 rfl Try.ntmps153 (by kernel_rfl) rfl ?_
  repeat' (first
    | ((show WL _ _ _ (⟨_, .call ⟨.value (.func 159), _, _⟩, _, _, _, _⟩ :: _) _ _ _); apply WL.callS; (iterate 4 exact rfl); exact slices_IndexFunc _ _ l f us p _ w0 R E hf)
    | (show WL _ _ _ _ _ _ _; first | apply WL.nil | (refine WL.au (k := ?_)))
    | (show Z _ _ _ _ _; apply Z.then_normal)
    | (show W _ _ _ _ _ _; first | apply W.seq | apply W.region | apply W.ret)
    | fail)
  refine Z.body1 Try.results153 rfl fun m => ⟨congrArg Value.bool (dec_congr ?_), m, rfl⟩
  by_cases h : l.findIdx p < l.length
  · rw [if_pos h]
    exact ⟨fun _ => ⟨l[l.findIdx p], List.getElem_mem h, List.findIdx_getElem⟩, fun _ => by omega⟩
  · rw [if_neg h]
    exact ⟨fun hh => by omega, fun hh => absurd (List.findIdx_lt_length_of_exists hh) h⟩
end Go.Proofs.Yteidpnpbfagaeaa
namespace Go.Proofs.Yteidpnpbfagaeaa
open Go Go.Lt Go.RowKit
set_option linter.unusedVariables false
set_option linter.unusedSimpArgs false
set_option maxRecDepth 20000

set_option maxHeartbeats 4000000 in
theorem aig_has (gs cap cl : Nat) (a al : Option Addr) (N : List (Int × Int)) (L : List Int) (v2 : Value) (w : World) (hc : w.heap[gs]? = some (.cells #[.slice a N.length cap, v2] 142 (0, 0))) (RL : Row 1 encI w al L) (hN : N.length ≤ 1048576) :
    Pure Try.prog 111 [.pointer (some ⟨gs, 0, none⟩), .slice al L.length cl] w (.bool (dec (∀ x ∈ L, hasL N x))) := by
  refine Spec.of _ Try.func111 rfl Try.ntmps111 (by kernel_rfl) rfl ?_
  repeat' (first
    | (apply WL.box; (iterate 3 exact rfl); intro gb w' hb hge hc hx; have hcc := hc; (first | (obtain ⟨h1, h2, h3, _⟩ := hc) | (obtain ⟨h1, h2, _⟩ := hc)))
    | (apply WL.neNilS tOk; (iterate 6 exact rfl))
    | ((show WL _ _ _ (⟨_, .call ⟨.value (.func 153), _, _⟩, _, _, _, _⟩ :: _) _ _ _); apply WL.callS; (iterate 4 exact rfl); exact slices_ContainsFunc _ _ L 154 [.pointer (some ⟨gb, 0, none⟩)] (fun x => !dec (hasL N x)) _ _ RL hx (fun x _ => aig_has1 gs gb cap a N v2 x _ (Ext.heap hx hc) h1 hN))
    | (show WL _ _ _ _ _ _ _; first | apply WL.nil | (refine WL.au (k := ?_)))
    | (show Z _ _ _ _ _; apply Z.then_normal)
    | (show W _ _ _ _ _ _; first | apply W.seq | apply W.region | apply W.ret)
    | fail)
  refine Z.body1 Try.results111 rfl fun m => ⟨congrArg Value.bool ?_, Ext.at (by (exact extA)) m⟩
  by_cases h : ∀ x ∈ L, hasL N x
  · rw [dec_true h, dec_false]
    · rfl
    · rintro ⟨x, hx, hp⟩; rw [dec_true (h x hx)] at hp; cases hp
  · rw [dec_false h, dec_true]
    · rfl
    · have h' : ∃ x, ¬ (x ∈ L → hasL N x) := Classical.not_forall.1 h
      obtain ⟨x, hx⟩ := h'
      have h2 : x ∈ L ∧ ¬ hasL N x := Classical.not_imp.1 hx
      exact ⟨x, h2.1, by rw [dec_false h2.2]; rfl⟩
end Go.Proofs.Yteidpnpbfagaeaa
namespace Go.Proofs.Yteidpnpbfagaeaa
open Go Go.Lt Go.RowKit
set_option linter.unusedVariables false
set_option linter.unusedSimpArgs false
set_option maxRecDepth 20000

theorem Sep.sub' {B : Nat} {w : World} {ps qs : List Piece} (f : Nat → Nat) (hS : Sep B w ps) (hf : ∀ i p, qs[i]? = some p → ps[f i]? = some p) (hi : ∀ i j, i < qs.length → j < qs.length → i ≠ j → f i ≠ f j) : Sep B w qs := by
  refine ⟨fun i p h => hS.holds _ _ (hf i p h), fun i j p q h1 h2 hne => hS.apart _ _ _ _ (hf i p h1) (hf j q h2) (hi i j ?_ ?_ hne)⟩
  · exact (List.getElem?_eq_some_iff.1 h1).1
  · exact (List.getElem?_eq_some_iff.1 h2).1
/-- The first piece goes to the end. -/
theorem Sep.rot {B : Nat} {w : World} {p : Piece} {ps : List Piece} (hS : Sep B w (p :: ps)) : Sep B w (ps ++ [p]) := by
  refine Sep.sub' (fun i => if i < ps.length then i + 1 else 0) hS (fun i q h => ?_) (fun i j hi hj hne => ?_)
  · by_cases h1 : i < ps.length
    · simp only [if_pos h1]; rw [List.getElem?_append_left h1] at h; simpa using h
    · simp only [if_neg h1]
      have h2 := (List.getElem?_eq_some_iff.1 h).1
      simp only [List.length_append, List.length_cons, List.length_nil] at h2
      have : i = ps.length := by omega
      subst this; simp at h; subst h; rfl
  · simp only [List.length_append, List.length_cons, List.length_nil] at hi hj
    show (if i < ps.length then i + 1 else 0) ≠ (if j < ps.length then j + 1 else 0)
    split <;> split <;> omega
theorem Sep.rotBack {B : Nat} {w : World} {p : Piece} {ps : List Piece} (hS : Sep B w (ps ++ [p])) : Sep B w (p :: ps) := by
  refine Sep.sub' (fun i => if i = 0 then ps.length else i - 1) hS (fun i q h => ?_) (fun i j hi hj hne => ?_)
  · cases i with
    | zero => simp at h; subst h; simp
    | succ i =>
      have h2 := (List.getElem?_eq_some_iff.1 h).1
      simp only [List.length_cons] at h2
      simp only [Nat.add_one_ne_zero, if_false, Nat.add_sub_cancel]
      rw [List.getElem?_append_left (by omega)]; simpa using h
  · simp only [List.length_cons] at hi hj
    show (if i = 0 then ps.length else i - 1) ≠ (if j = 0 then ps.length else j - 1)
    split <;> split <;> omega
theorem Sep.tail {B : Nat} {w : World} {p : Piece} {ps : List Piece} (hS : Sep B w (p :: ps)) : Sep B w ps := hS.drop 1

structure AndR where
  v : Int
  N : List (Int × Int)
  M : List ((Int × Int) × Int)
/-- The gate of two literals of which the first is not the greater. -/
noncomputable def andF (N : List (Int × Int)) (M : List ((Int × Int) × Int)) (x y : Int) : AndR :=
  bif dec (¬ (hasL N x ∧ hasL N y)) then ⟨-1, N, M⟩ else
  bif dec (x = 0 ∨ x = xor1 y) then ⟨0, N, M⟩ else
  bif dec (x = 1 ∨ x = y) then ⟨y, N, M⟩ else
  match mget (x, y) M with
  | some v => ⟨v, N, M⟩
  | none => ⟨2 * ((N.length : Int) + 1), N ++ [(x, y)], M ++ [((x, y), 2 * ((N.length : Int) + 1))]⟩

section
variable {N : List (Int × Int)} {M : List ((Int × Int) × Int)} {x y : Int}
theorem andF_no (h : ¬ (hasL N x ∧ hasL N y)) : andF N M x y = ⟨-1, N, M⟩ := by unfold andF; rw [dec_true h]; rfl
theorem andF_zero (h : hasL N x ∧ hasL N y) (h1 : x = 0 ∨ x = xor1 y) : andF N M x y = ⟨0, N, M⟩ := by unfold andF; rw [dec_false (fun hh => hh h), dec_true h1]; rfl
theorem andF_one (h : hasL N x ∧ hasL N y) (h1 : ¬ (x = 0 ∨ x = xor1 y)) (h2 : x = 1 ∨ x = y) : andF N M x y = ⟨y, N, M⟩ := by unfold andF; rw [dec_false (fun hh => hh h), dec_false h1, dec_true h2]; rfl
theorem andF_old {v : Int} (h : hasL N x ∧ hasL N y) (h1 : ¬ (x = 0 ∨ x = xor1 y)) (h2 : ¬ (x = 1 ∨ x = y)) (hm : mget (x, y) M = some v) : andF N M x y = ⟨v, N, M⟩ := by unfold andF; rw [dec_false (fun hh => hh h), dec_false h1, dec_false h2, hm]; rfl
theorem andF_new (h : hasL N x ∧ hasL N y) (h1 : ¬ (x = 0 ∨ x = xor1 y)) (h2 : ¬ (x = 1 ∨ x = y)) (hm : mget (x, y) M = none) : andF N M x y = ⟨2 * ((N.length : Int) + 1), N ++ [(x, y)], M ++ [((x, y), 2 * ((N.length : Int) + 1))]⟩ := by unfold andF; rw [dec_false (fun hh => hh h), dec_false h1, dec_false h2, hm]; rfl
end

set_option maxHeartbeats 4000000 in
theorem aig_AndLe (gs r cap : Nat) (a : Option Addr) (N : List (Int × Int)) (M : List ((Int × Int) × Int)) (x y : Int) (rest : List Piece) (w w0 : World) (hX : Ext w0 w) (hS : Sep w0.heap.size w (stP w0.heap.size gs a cap r N M ++ rest)) (hN : N.length < 1048576) (hxy : x ≤ y) :
    Lt.Spec Try.prog 113 [.pointer (some ⟨gs, 0, none⟩), .int .i64 x, .int .i64 y] w (fun v w' => Ext w0 w' ∧ ∃ a' cap', v = .int .i64 (andF N M x y).v ∧ Sep w0.heap.size w' (stP w0.heap.size gs a' cap' r (andF N M x y).N (andF N M x y).M ++ rest)) := by
  have hC0 := hS.cell (i := 0) rfl
  have hM0 := hS.map (i := 2) rfl
  have hgs := (hS.lt (i := 0) rfl rfl)
  have hr := (hS.lt (i := 2) rfl rfl)
  obtain ⟨hD0, hD1, _⟩ := cells_heap hC0
  have hall : dec (∀ z ∈ [x, y], hasL N z) = dec (hasL N x ∧ hasL N y) := dec_congr (by simp)
  rcases hm : mget (x, y) M with _ | v
  · refine Spec.of _ Try.func113 rfl Try.ntmps113 (by kernel_rfl) rfl ?_
    repeat' (first
      | (apply WL.lit tOk; (iterate 6 exact rfl); (first | exact rfl | kernel_rfl | (simp [Instr.fill, catCells]; done)); exact rfl; intro gb w' hb hge hc hx; have hO := Own.of_block ([x, y]) encI_ok hb hge rfl)
      | ((show WL _ _ _ (⟨_, .call ⟨.value (.func 111), _, _⟩, _, _, _, _⟩ :: _) _ _ _); apply WL.callP; (iterate 4 exact rfl); exact aig_has _ _ _ _ _ N [x, y] _ _ (Ext.heap (by assumption) hC0) (Own.row encI_ok (by assumption)) (by omega); intro w' hx)
      | (apply W.condKF; exact rfl; (focus (first | exact dec_true (by omega) | exact dec_false (by omega); done)))
      | ((apply WL.xor1; (iterate 4 exact rfl); (focus (have h9 := (by assumption : ∀ z ∈ [x, y], hasL N z); have h8 := h9 y (by simp); unfold hasL at h8; omega))))
      | (apply WL.build tOk; (iterate 7 exact rfl); kernel_rfl)
      | (apply WL.alloc tOk; (iterate 3 exact rfl); intro gb w' hb hge hx; replace hS := Sep.newCell (Sep.ext hS (by (exact extA))) hx hb hge (by (first | exact Nat.le_refl _ | exact Below.size (by (exact extA)))); (try simp only [List.set_cons_zero, List.set_cons_succ] at hS); (try have hR0 := hS.row (i := 0) rfl); (try have hR1 := hS.row (i := 1) rfl); (try have hR2 := hS.row (i := 2) rfl); (try have hR3 := hS.row (i := 3) rfl); (try have hR4 := hS.row (i := 4) rfl); (try have hC0 := hS.cell (i := 0) rfl); (try have hD0 := (cells_heap hC0).1); (try have hE0 := (cells_heap hC0).2.1); (try have hF0 := (cells_heap hC0).2.2.1); (try have hG0 := (cells_heap hC0).2.2.2.1); (try have hC1 := hS.cell (i := 1) rfl); (try have hD1 := (cells_heap hC1).1); (try have hE1 := (cells_heap hC1).2.1); (try have hF1 := (cells_heap hC1).2.2.1); (try have hG1 := (cells_heap hC1).2.2.2.1); (try have hC2 := hS.cell (i := 2) rfl); (try have hD2 := (cells_heap hC2).1); (try have hE2 := (cells_heap hC2).2.1); (try have hF2 := (cells_heap hC2).2.2.1); (try have hG2 := (cells_heap hC2).2.2.2.1); (try have hC3 := hS.cell (i := 3) rfl); (try have hD3 := (cells_heap hC3).1); (try have hE3 := (cells_heap hC3).2.1); (try have hF3 := (cells_heap hC3).2.2.1); (try have hG3 := (cells_heap hC3).2.2.2.1); (try have hC4 := hS.cell (i := 4) rfl); (try have hD4 := (cells_heap hC4).1); (try have hE4 := (cells_heap hC4).2.1); (try have hF4 := (cells_heap hC4).2.2.1); (try have hG4 := (cells_heap hC4).2.2.2.1); (try have hM0 := hS.map (i := 0) rfl); (try have hM1 := hS.map (i := 1) rfl); (try have hM2 := hS.map (i := 2) rfl); (try have hM3 := hS.map (i := 3) rfl); (try have hM4 := hS.map (i := 4) rfl))
      | (apply WL.storeB (w0 := w0) tOk; (iterate 4 exact rfl); assumption; (exact extA); (iterate 3 exact rfl); (exact extA); (first | assumption | omega | (focus (apply Nat.le_trans; rotate_left; assumption; exact Below.size (by (exact extA)); done))); intro w' hb hc hX' hU; have hcc := hc; obtain ⟨h1, h2, _⟩ := hc; replace hS := Sep.updCell (i := 0) rfl hU hb hS (by (exact extA)) (by (first | exact Nat.le_refl _ | exact Below.size (by (exact extA)))); (try simp only [List.set_cons_zero, List.set_cons_succ] at hS); (try have hR0 := hS.row (i := 0) rfl); (try have hR1 := hS.row (i := 1) rfl); (try have hR2 := hS.row (i := 2) rfl); (try have hR3 := hS.row (i := 3) rfl); (try have hR4 := hS.row (i := 4) rfl); (try have hC0 := hS.cell (i := 0) rfl); (try have hD0 := (cells_heap hC0).1); (try have hE0 := (cells_heap hC0).2.1); (try have hF0 := (cells_heap hC0).2.2.1); (try have hG0 := (cells_heap hC0).2.2.2.1); (try have hC1 := hS.cell (i := 1) rfl); (try have hD1 := (cells_heap hC1).1); (try have hE1 := (cells_heap hC1).2.1); (try have hF1 := (cells_heap hC1).2.2.1); (try have hG1 := (cells_heap hC1).2.2.2.1); (try have hC2 := hS.cell (i := 2) rfl); (try have hD2 := (cells_heap hC2).1); (try have hE2 := (cells_heap hC2).2.1); (try have hF2 := (cells_heap hC2).2.2.1); (try have hG2 := (cells_heap hC2).2.2.2.1); (try have hC3 := hS.cell (i := 3) rfl); (try have hD3 := (cells_heap hC3).1); (try have hE3 := (cells_heap hC3).2.1); (try have hF3 := (cells_heap hC3).2.2.1); (try have hG3 := (cells_heap hC3).2.2.2.1); (try have hC4 := hS.cell (i := 4) rfl); (try have hD4 := (cells_heap hC4).1); (try have hE4 := (cells_heap hC4).2.1); (try have hF4 := (cells_heap hC4).2.2.1); (try have hG4 := (cells_heap hC4).2.2.2.1); (try have hM0 := hS.map (i := 0) rfl); (try have hM1 := hS.map (i := 1) rfl); (try have hM2 := hS.map (i := 2) rfl); (try have hM3 := hS.map (i := 3) rfl); (try have hM4 := hS.map (i := 4) rfl))
      | (apply QL.nilc; (iterate 3 exact rfl))
      | (apply QL.lookupNone (a := (x, y)) tOk keyN; (iterate 7 exact rfl); (first | assumption | exact MapIs.ext (by assumption) (by assumption)); exact hm)
      | (show WL _ _ _ _ _ _ _; first | apply WL.nil | (refine WL.au (k := ?_)) | (apply WL.guardF; exact rfl; exact rfl) | (apply WL.gD; exact rfl; exact rfl; all_goals intro _))
      | (show QL _ _ _ _ _ _ _; first | apply QL.nil | (refine QL.au (k := ?_)))
      | (show Z _ _ _ _ _; first | apply Z.then_normal | apply Z.block_normal | apply Z.then_ret | apply Z.block_ret)
      | (show W _ _ _ _ _ _; first | apply W.seq | apply W.region | apply W.block | apply W.skip | apply W.ret | (apply W.condT; exact rfl) | (apply W.condF; exact rfl) | (apply W.condD; exact rfl; all_goals intro _) | (apply W.condN; exact rfl; all_goals intro _) | (apply W.regionD tMix; kernel_rfl))
      | fail)
    repeat' (first
      | (((show WL _ _ _ (⟨_, .call ⟨.value (.func 143), _, _⟩, _, _, _, _⟩ :: _) _ _ _); have hS9 : Lt.Sep w0.heap.size _ (stP w0.heap.size gs a cap r N M ++ (rest ++ [pcell gb _ 105])) := Sep.rot hS; apply WL.call; (iterate 4 exact rfl); exact aig_put gs r cap a N M (x, y) _ _ w0 (by (exact extA)) hS9 hN; rintro v' w'' ⟨hX2, a', cap', rfl, hS2⟩; replace hS := Sep.rotBack (ps := stP w0.heap.size gs a' cap' r (N ++ [(x, y)]) M ++ rest) hS2; (try simp only [List.set_cons_zero, List.set_cons_succ] at hS); (try have hR0 := hS.row (i := 0) rfl); (try have hR1 := hS.row (i := 1) rfl); (try have hR2 := hS.row (i := 2) rfl); (try have hR3 := hS.row (i := 3) rfl); (try have hR4 := hS.row (i := 4) rfl); (try have hC0 := hS.cell (i := 0) rfl); (try have hD0 := (cells_heap hC0).1); (try have hE0 := (cells_heap hC0).2.1); (try have hF0 := (cells_heap hC0).2.2.1); (try have hG0 := (cells_heap hC0).2.2.2.1); (try have hC1 := hS.cell (i := 1) rfl); (try have hD1 := (cells_heap hC1).1); (try have hE1 := (cells_heap hC1).2.1); (try have hF1 := (cells_heap hC1).2.2.1); (try have hG1 := (cells_heap hC1).2.2.2.1); (try have hC2 := hS.cell (i := 2) rfl); (try have hD2 := (cells_heap hC2).1); (try have hE2 := (cells_heap hC2).2.1); (try have hF2 := (cells_heap hC2).2.2.1); (try have hG2 := (cells_heap hC2).2.2.2.1); (try have hC3 := hS.cell (i := 3) rfl); (try have hD3 := (cells_heap hC3).1); (try have hE3 := (cells_heap hC3).2.1); (try have hF3 := (cells_heap hC3).2.2.1); (try have hG3 := (cells_heap hC3).2.2.2.1); (try have hC4 := hS.cell (i := 4) rfl); (try have hD4 := (cells_heap hC4).1); (try have hE4 := (cells_heap hC4).2.1); (try have hF4 := (cells_heap hC4).2.2.1); (try have hG4 := (cells_heap hC4).2.2.2.1); (try have hM0 := hS.map (i := 0) rfl); (try have hM1 := hS.map (i := 1) rfl); (try have hM2 := hS.map (i := 2) rfl); (try have hM3 := hS.map (i := 3) rfl); (try have hM4 := hS.map (i := 4) rfl); have hcc2 := cells_heap (hS.cell (i := 0) rfl)))
      | (apply W.condKT; exact rfl; (focus (exact dec_true (by omega); done)))
      | (apply W.regionQS 6 tMix; kernel_rfl; exact rfl; kernel_rfl; kernel_rfl)
      | (apply QL.nilc; (iterate 3 exact rfl))
      | ((apply WL.mapNew (B := 0) (w0 := w0) (a := (x, y)) tOk keyN; (iterate 6 exact rfl); assumption; exact hm; exact (by (exact extA)); exact hr.1; intro w9 hM9 hX9 hU9; replace hS := Sep.updMap (i := 3) rfl hU9 hM9 hS (Ext.refl _) (Below.size (by (exact extA)))))
      | (show WL _ _ _ _ _ _ _; first | apply WL.nil | (refine WL.au (k := ?_)))
      | (show QL _ _ _ _ _ _ _; first | apply QL.nil | (refine QL.au (k := ?_)))
      | (show Z _ _ _ _ _; first | apply Z.tail | apply Z.then_normal)
      | (show W _ _ _ _ _ _; first | apply W.seq | apply W.region | apply W.ret)
      | fail)
    all_goals (refine Z.body1 Try.results113 rfl fun m => ?_)
    all_goals (first
      | (rw [andF_no (fun hh => (by assumption : ¬ ∀ z ∈ [x, y], hasL N z) (by intro z hz; simp only [List.mem_cons, List.not_mem_nil, or_false] at hz; rcases hz with rfl | rfl; exact hh.1; exact hh.2))]; exact ⟨Ext.at (by (exact extA)) m, a, cap, rfl, (Sep.ext hS (by (exact extA))).ext ((Ext.refl _).at m)⟩)
      | (have h9 := (by assumption : ∀ z ∈ [x, y], hasL N z); have h8 : hasL N x ∧ hasL N y := ⟨h9 _ (by simp), h9 _ (by simp)⟩; first
        | (rw [andF_zero h8 (by omega)]; exact ⟨Ext.at (by (exact extA)) m, a, cap, rfl, (Sep.ext hS (by (exact extA))).ext ((Ext.refl _).at m)⟩)
        | (rw [andF_one h8 (by omega) (by omega)]; exact ⟨Ext.at (by (exact extA)) m, a, cap, rfl, (Sep.ext hS (by (exact extA))).ext ((Ext.refl _).at m)⟩)
        | (rw [andF_new h8 (by omega) (by omega) hm]; exact ⟨Ext.at (by (exact extA)) m, a', cap', rfl, (Sep.tail hS).ext ((Ext.refl _).at m)⟩)))
  · refine Spec.of _ Try.func113 rfl Try.ntmps113 (by kernel_rfl) rfl ?_
    repeat' (first
      | (apply WL.lit tOk; (iterate 6 exact rfl); (first | exact rfl | kernel_rfl | (simp [Instr.fill, catCells]; done)); exact rfl; intro gb w' hb hge hc hx; have hO := Own.of_block ([x, y]) encI_ok hb hge rfl)
      | ((show WL _ _ _ (⟨_, .call ⟨.value (.func 111), _, _⟩, _, _, _, _⟩ :: _) _ _ _); apply WL.callP; (iterate 4 exact rfl); exact aig_has _ _ _ _ _ N [x, y] _ _ (Ext.heap (by assumption) hC0) (Own.row encI_ok (by assumption)) (by omega); intro w' hx)
      | (apply W.condKF; exact rfl; (focus (first | exact dec_true (by omega) | exact dec_false (by omega); done)))
      | ((apply WL.xor1; (iterate 4 exact rfl); (focus (have h9 := (by assumption : ∀ z ∈ [x, y], hasL N z); have h8 := h9 y (by simp); unfold hasL at h8; omega))))
      | (apply WL.build tOk; (iterate 7 exact rfl); kernel_rfl)
      | (apply WL.alloc tOk; (iterate 3 exact rfl); intro gb w' hb hge hx; replace hS := Sep.newCell (Sep.ext hS (by (exact extA))) hx hb hge (by (first | exact Nat.le_refl _ | exact Below.size (by (exact extA)))); (try simp only [List.set_cons_zero, List.set_cons_succ] at hS); (try have hR0 := hS.row (i := 0) rfl); (try have hR1 := hS.row (i := 1) rfl); (try have hR2 := hS.row (i := 2) rfl); (try have hR3 := hS.row (i := 3) rfl); (try have hR4 := hS.row (i := 4) rfl); (try have hC0 := hS.cell (i := 0) rfl); (try have hD0 := (cells_heap hC0).1); (try have hE0 := (cells_heap hC0).2.1); (try have hF0 := (cells_heap hC0).2.2.1); (try have hG0 := (cells_heap hC0).2.2.2.1); (try have hC1 := hS.cell (i := 1) rfl); (try have hD1 := (cells_heap hC1).1); (try have hE1 := (cells_heap hC1).2.1); (try have hF1 := (cells_heap hC1).2.2.1); (try have hG1 := (cells_heap hC1).2.2.2.1); (try have hC2 := hS.cell (i := 2) rfl); (try have hD2 := (cells_heap hC2).1); (try have hE2 := (cells_heap hC2).2.1); (try have hF2 := (cells_heap hC2).2.2.1); (try have hG2 := (cells_heap hC2).2.2.2.1); (try have hC3 := hS.cell (i := 3) rfl); (try have hD3 := (cells_heap hC3).1); (try have hE3 := (cells_heap hC3).2.1); (try have hF3 := (cells_heap hC3).2.2.1); (try have hG3 := (cells_heap hC3).2.2.2.1); (try have hC4 := hS.cell (i := 4) rfl); (try have hD4 := (cells_heap hC4).1); (try have hE4 := (cells_heap hC4).2.1); (try have hF4 := (cells_heap hC4).2.2.1); (try have hG4 := (cells_heap hC4).2.2.2.1); (try have hM0 := hS.map (i := 0) rfl); (try have hM1 := hS.map (i := 1) rfl); (try have hM2 := hS.map (i := 2) rfl); (try have hM3 := hS.map (i := 3) rfl); (try have hM4 := hS.map (i := 4) rfl))
      | (apply WL.storeB (w0 := w0) tOk; (iterate 4 exact rfl); assumption; (exact extA); (iterate 3 exact rfl); (exact extA); (first | assumption | omega | (focus (apply Nat.le_trans; rotate_left; assumption; exact Below.size (by (exact extA)); done))); intro w' hb hc hX' hU; have hcc := hc; obtain ⟨h1, h2, _⟩ := hc; replace hS := Sep.updCell (i := 0) rfl hU hb hS (by (exact extA)) (by (first | exact Nat.le_refl _ | exact Below.size (by (exact extA)))); (try simp only [List.set_cons_zero, List.set_cons_succ] at hS); (try have hR0 := hS.row (i := 0) rfl); (try have hR1 := hS.row (i := 1) rfl); (try have hR2 := hS.row (i := 2) rfl); (try have hR3 := hS.row (i := 3) rfl); (try have hR4 := hS.row (i := 4) rfl); (try have hC0 := hS.cell (i := 0) rfl); (try have hD0 := (cells_heap hC0).1); (try have hE0 := (cells_heap hC0).2.1); (try have hF0 := (cells_heap hC0).2.2.1); (try have hG0 := (cells_heap hC0).2.2.2.1); (try have hC1 := hS.cell (i := 1) rfl); (try have hD1 := (cells_heap hC1).1); (try have hE1 := (cells_heap hC1).2.1); (try have hF1 := (cells_heap hC1).2.2.1); (try have hG1 := (cells_heap hC1).2.2.2.1); (try have hC2 := hS.cell (i := 2) rfl); (try have hD2 := (cells_heap hC2).1); (try have hE2 := (cells_heap hC2).2.1); (try have hF2 := (cells_heap hC2).2.2.1); (try have hG2 := (cells_heap hC2).2.2.2.1); (try have hC3 := hS.cell (i := 3) rfl); (try have hD3 := (cells_heap hC3).1); (try have hE3 := (cells_heap hC3).2.1); (try have hF3 := (cells_heap hC3).2.2.1); (try have hG3 := (cells_heap hC3).2.2.2.1); (try have hC4 := hS.cell (i := 4) rfl); (try have hD4 := (cells_heap hC4).1); (try have hE4 := (cells_heap hC4).2.1); (try have hF4 := (cells_heap hC4).2.2.1); (try have hG4 := (cells_heap hC4).2.2.2.1); (try have hM0 := hS.map (i := 0) rfl); (try have hM1 := hS.map (i := 1) rfl); (try have hM2 := hS.map (i := 2) rfl); (try have hM3 := hS.map (i := 3) rfl); (try have hM4 := hS.map (i := 4) rfl))
      | (apply QL.nilc; (iterate 3 exact rfl))
      | (apply QL.lookupSome (a := (x, y)) tOk keyN; (iterate 7 exact rfl); (first | assumption | exact MapIs.ext (by assumption) (by assumption)); exact hm)
      | (show WL _ _ _ _ _ _ _; first | apply WL.nil | (refine WL.au (k := ?_)) | (apply WL.guardF; exact rfl; exact rfl) | (apply WL.gD; exact rfl; exact rfl; all_goals intro _))
      | (show QL _ _ _ _ _ _ _; first | apply QL.nil | (refine QL.au (k := ?_)))
      | (show Z _ _ _ _ _; first | apply Z.then_normal | apply Z.block_normal | apply Z.then_ret | apply Z.block_ret)
      | (show W _ _ _ _ _ _; first | apply W.seq | apply W.region | apply W.block | apply W.skip | apply W.ret | (apply W.condT; exact rfl) | (apply W.condD; exact rfl; all_goals intro _) | (apply W.condN; exact rfl; all_goals intro _) | (apply W.regionD tMix; kernel_rfl))
      | fail)
    all_goals (refine Z.body1 Try.results113 rfl fun m => ?_)
    all_goals (first
      | (rw [andF_no (fun hh => (by assumption : ¬ ∀ z ∈ [x, y], hasL N z) (by intro z hz; simp only [List.mem_cons, List.not_mem_nil, or_false] at hz; rcases hz with rfl | rfl; exact hh.1; exact hh.2))]; exact ⟨Ext.at (by (exact extA)) m, a, cap, rfl, (Sep.ext hS (by (exact extA))).ext ((Ext.refl _).at m)⟩)
      | (have h9 := (by assumption : ∀ z ∈ [x, y], hasL N z); have h8 : hasL N x ∧ hasL N y := ⟨h9 _ (by simp), h9 _ (by simp)⟩; first
        | (rw [andF_zero h8 (by omega)]; exact ⟨Ext.at (by (exact extA)) m, a, cap, rfl, (Sep.ext hS (by (exact extA))).ext ((Ext.refl _).at m)⟩)
        | (rw [andF_one h8 (by omega) (by omega)]; exact ⟨Ext.at (by (exact extA)) m, a, cap, rfl, (Sep.ext hS (by (exact extA))).ext ((Ext.refl _).at m)⟩)
        | (rw [andF_old h8 (by omega) (by omega) hm]; exact ⟨Ext.at (by (exact extA)) m, a, cap, rfl, (Sep.tail hS).ext ((Ext.refl _).at m)⟩)))

set_option maxHeartbeats 4000000 in
theorem aig_AndGt (gs r cap : Nat) (a : Option Addr) (N : List (Int × Int)) (M : List ((Int × Int) × Int)) (x y : Int) (rest : List Piece) (w w0 : World) (hX : Ext w0 w) (hS : Sep w0.heap.size w (stP w0.heap.size gs a cap r N M ++ rest)) (hN : N.length < 1048576) (hxy : y < x) :
    Lt.Spec Try.prog 113 [.pointer (some ⟨gs, 0, none⟩), .int .i64 x, .int .i64 y] w (fun v w' => Ext w0 w' ∧ ∃ a' cap', v = .int .i64 (andF N M y x).v ∧ Sep w0.heap.size w' (stP w0.heap.size gs a' cap' r (andF N M y x).N (andF N M y x).M ++ rest)) := by
  have hC0 := hS.cell (i := 0) rfl
  have hM0 := hS.map (i := 2) rfl
  have hgs := (hS.lt (i := 0) rfl rfl)
  have hr := (hS.lt (i := 2) rfl rfl)
  obtain ⟨hD0, hD1, _⟩ := cells_heap hC0
  have hall : dec (∀ z ∈ [x, y], hasL N z) = dec (hasL N y ∧ hasL N x) := dec_congr (by simp; exact and_comm)
  rcases hm : mget (y, x) M with _ | v
  · refine Spec.of _ Try.func113 rfl Try.ntmps113 (by kernel_rfl) rfl ?_
    repeat' (first
      | (apply WL.lit tOk; (iterate 6 exact rfl); (first | exact rfl | kernel_rfl | (simp [Instr.fill, catCells]; done)); exact rfl; intro gb w' hb hge hc hx; have hO := Own.of_block ([x, y]) encI_ok hb hge rfl)
      | ((show WL _ _ _ (⟨_, .call ⟨.value (.func 111), _, _⟩, _, _, _, _⟩ :: _) _ _ _); apply WL.callP; (iterate 4 exact rfl); exact aig_has _ _ _ _ _ N [x, y] _ _ (Ext.heap (by assumption) hC0) (Own.row encI_ok (by assumption)) (by omega); intro w' hx)
      | (apply W.condKT; exact rfl; (focus (first | exact dec_true (by omega) | exact dec_false (by omega); done)))
      | (apply W.condKF; exact rfl; (focus (first | exact dec_true (by omega) | exact dec_false (by omega); done)))
      | ((apply WL.xor1; (iterate 4 exact rfl); (focus (have h9 := (by assumption : ∀ z ∈ [x, y], hasL N z); have h8 := h9 x (by simp); unfold hasL at h8; omega))))
      | (apply WL.build tOk; (iterate 7 exact rfl); kernel_rfl)
      | (apply WL.alloc tOk; (iterate 3 exact rfl); intro gb w' hb hge hx; replace hS := Sep.newCell (Sep.ext hS (by (exact extA))) hx hb hge (by (first | exact Nat.le_refl _ | exact Below.size (by (exact extA)))); (try simp only [List.set_cons_zero, List.set_cons_succ] at hS); (try have hR0 := hS.row (i := 0) rfl); (try have hR1 := hS.row (i := 1) rfl); (try have hR2 := hS.row (i := 2) rfl); (try have hR3 := hS.row (i := 3) rfl); (try have hR4 := hS.row (i := 4) rfl); (try have hC0 := hS.cell (i := 0) rfl); (try have hD0 := (cells_heap hC0).1); (try have hE0 := (cells_heap hC0).2.1); (try have hF0 := (cells_heap hC0).2.2.1); (try have hG0 := (cells_heap hC0).2.2.2.1); (try have hC1 := hS.cell (i := 1) rfl); (try have hD1 := (cells_heap hC1).1); (try have hE1 := (cells_heap hC1).2.1); (try have hF1 := (cells_heap hC1).2.2.1); (try have hG1 := (cells_heap hC1).2.2.2.1); (try have hC2 := hS.cell (i := 2) rfl); (try have hD2 := (cells_heap hC2).1); (try have hE2 := (cells_heap hC2).2.1); (try have hF2 := (cells_heap hC2).2.2.1); (try have hG2 := (cells_heap hC2).2.2.2.1); (try have hC3 := hS.cell (i := 3) rfl); (try have hD3 := (cells_heap hC3).1); (try have hE3 := (cells_heap hC3).2.1); (try have hF3 := (cells_heap hC3).2.2.1); (try have hG3 := (cells_heap hC3).2.2.2.1); (try have hC4 := hS.cell (i := 4) rfl); (try have hD4 := (cells_heap hC4).1); (try have hE4 := (cells_heap hC4).2.1); (try have hF4 := (cells_heap hC4).2.2.1); (try have hG4 := (cells_heap hC4).2.2.2.1); (try have hM0 := hS.map (i := 0) rfl); (try have hM1 := hS.map (i := 1) rfl); (try have hM2 := hS.map (i := 2) rfl); (try have hM3 := hS.map (i := 3) rfl); (try have hM4 := hS.map (i := 4) rfl))
      | (apply WL.storeB (w0 := w0) tOk; (iterate 4 exact rfl); assumption; (exact extA); (iterate 3 exact rfl); (exact extA); (first | assumption | omega | (focus (apply Nat.le_trans; rotate_left; assumption; exact Below.size (by (exact extA)); done))); intro w' hb hc hX' hU; have hcc := hc; obtain ⟨h1, h2, _⟩ := hc; replace hS := Sep.updCell (i := 0) rfl hU hb hS (by (exact extA)) (by (first | exact Nat.le_refl _ | exact Below.size (by (exact extA)))); (try simp only [List.set_cons_zero, List.set_cons_succ] at hS); (try have hR0 := hS.row (i := 0) rfl); (try have hR1 := hS.row (i := 1) rfl); (try have hR2 := hS.row (i := 2) rfl); (try have hR3 := hS.row (i := 3) rfl); (try have hR4 := hS.row (i := 4) rfl); (try have hC0 := hS.cell (i := 0) rfl); (try have hD0 := (cells_heap hC0).1); (try have hE0 := (cells_heap hC0).2.1); (try have hF0 := (cells_heap hC0).2.2.1); (try have hG0 := (cells_heap hC0).2.2.2.1); (try have hC1 := hS.cell (i := 1) rfl); (try have hD1 := (cells_heap hC1).1); (try have hE1 := (cells_heap hC1).2.1); (try have hF1 := (cells_heap hC1).2.2.1); (try have hG1 := (cells_heap hC1).2.2.2.1); (try have hC2 := hS.cell (i := 2) rfl); (try have hD2 := (cells_heap hC2).1); (try have hE2 := (cells_heap hC2).2.1); (try have hF2 := (cells_heap hC2).2.2.1); (try have hG2 := (cells_heap hC2).2.2.2.1); (try have hC3 := hS.cell (i := 3) rfl); (try have hD3 := (cells_heap hC3).1); (try have hE3 := (cells_heap hC3).2.1); (try have hF3 := (cells_heap hC3).2.2.1); (try have hG3 := (cells_heap hC3).2.2.2.1); (try have hC4 := hS.cell (i := 4) rfl); (try have hD4 := (cells_heap hC4).1); (try have hE4 := (cells_heap hC4).2.1); (try have hF4 := (cells_heap hC4).2.2.1); (try have hG4 := (cells_heap hC4).2.2.2.1); (try have hM0 := hS.map (i := 0) rfl); (try have hM1 := hS.map (i := 1) rfl); (try have hM2 := hS.map (i := 2) rfl); (try have hM3 := hS.map (i := 3) rfl); (try have hM4 := hS.map (i := 4) rfl))
      | (apply QL.nilc; (iterate 3 exact rfl))
      | (apply QL.lookupNone (a := (y, x)) tOk keyN; (iterate 7 exact rfl); (first | assumption | exact MapIs.ext (by assumption) (by assumption)); exact hm)
      | (show WL _ _ _ _ _ _ _; first | apply WL.nil | (refine WL.au (k := ?_)) | (apply WL.guardF; exact rfl; exact rfl) | (apply WL.gD; exact rfl; exact rfl; all_goals intro _))
      | (show QL _ _ _ _ _ _ _; first | apply QL.nil | (refine QL.au (k := ?_)))
      | (show Z _ _ _ _ _; first | apply Z.then_normal | apply Z.block_normal | apply Z.then_ret | apply Z.block_ret)
      | (show W _ _ _ _ _ _; first | apply W.seq | apply W.region | apply W.block | apply W.skip | apply W.ret | (apply W.condT; exact rfl) | (apply W.condF; exact rfl) | (apply W.condD; exact rfl; all_goals intro _) | (apply W.condN; exact rfl; all_goals intro _) | (apply W.regionD tMix; kernel_rfl))
      | fail)
    repeat' (first
      | (((show WL _ _ _ (⟨_, .call ⟨.value (.func 143), _, _⟩, _, _, _, _⟩ :: _) _ _ _); have hS9 : Lt.Sep w0.heap.size _ (stP w0.heap.size gs a cap r N M ++ (rest ++ [pcell gb _ 105])) := Sep.rot hS; apply WL.call; (iterate 4 exact rfl); exact aig_put gs r cap a N M (y, x) _ _ w0 (by (exact extA)) hS9 hN; rintro v' w'' ⟨hX2, a', cap', rfl, hS2⟩; replace hS := Sep.rotBack (ps := stP w0.heap.size gs a' cap' r (N ++ [(y, x)]) M ++ rest) hS2; (try simp only [List.set_cons_zero, List.set_cons_succ] at hS); (try have hR0 := hS.row (i := 0) rfl); (try have hR1 := hS.row (i := 1) rfl); (try have hR2 := hS.row (i := 2) rfl); (try have hR3 := hS.row (i := 3) rfl); (try have hR4 := hS.row (i := 4) rfl); (try have hC0 := hS.cell (i := 0) rfl); (try have hD0 := (cells_heap hC0).1); (try have hE0 := (cells_heap hC0).2.1); (try have hF0 := (cells_heap hC0).2.2.1); (try have hG0 := (cells_heap hC0).2.2.2.1); (try have hC1 := hS.cell (i := 1) rfl); (try have hD1 := (cells_heap hC1).1); (try have hE1 := (cells_heap hC1).2.1); (try have hF1 := (cells_heap hC1).2.2.1); (try have hG1 := (cells_heap hC1).2.2.2.1); (try have hC2 := hS.cell (i := 2) rfl); (try have hD2 := (cells_heap hC2).1); (try have hE2 := (cells_heap hC2).2.1); (try have hF2 := (cells_heap hC2).2.2.1); (try have hG2 := (cells_heap hC2).2.2.2.1); (try have hC3 := hS.cell (i := 3) rfl); (try have hD3 := (cells_heap hC3).1); (try have hE3 := (cells_heap hC3).2.1); (try have hF3 := (cells_heap hC3).2.2.1); (try have hG3 := (cells_heap hC3).2.2.2.1); (try have hC4 := hS.cell (i := 4) rfl); (try have hD4 := (cells_heap hC4).1); (try have hE4 := (cells_heap hC4).2.1); (try have hF4 := (cells_heap hC4).2.2.1); (try have hG4 := (cells_heap hC4).2.2.2.1); (try have hM0 := hS.map (i := 0) rfl); (try have hM1 := hS.map (i := 1) rfl); (try have hM2 := hS.map (i := 2) rfl); (try have hM3 := hS.map (i := 3) rfl); (try have hM4 := hS.map (i := 4) rfl); have hcc2 := cells_heap (hS.cell (i := 0) rfl)))
      | (apply W.condKT; exact rfl; (focus (exact dec_true (by omega); done)))
      | (apply W.regionQS 6 tMix; kernel_rfl; exact rfl; kernel_rfl; kernel_rfl)
      | (apply QL.nilc; (iterate 3 exact rfl))
      | ((apply WL.mapNew (B := 0) (w0 := w0) (a := (y, x)) tOk keyN; (iterate 6 exact rfl); assumption; exact hm; exact (by (exact extA)); exact hr.1; intro w9 hM9 hX9 hU9; replace hS := Sep.updMap (i := 3) rfl hU9 hM9 hS (Ext.refl _) (Below.size (by (exact extA)))))
      | (show WL _ _ _ _ _ _ _; first | apply WL.nil | (refine WL.au (k := ?_)))
      | (show QL _ _ _ _ _ _ _; first | apply QL.nil | (refine QL.au (k := ?_)))
      | (show Z _ _ _ _ _; first | apply Z.tail | apply Z.then_normal)
      | (show W _ _ _ _ _ _; first | apply W.seq | apply W.region | apply W.ret)
      | fail)
    all_goals (refine Z.body1 Try.results113 rfl fun m => ?_)
    all_goals (first
      | (rw [andF_no (fun hh => (by assumption : ¬ ∀ z ∈ [x, y], hasL N z) (by intro z hz; simp only [List.mem_cons, List.not_mem_nil, or_false] at hz; rcases hz with rfl | rfl; exact hh.2; exact hh.1))]; exact ⟨Ext.at (by (exact extA)) m, a, cap, rfl, (Sep.ext hS (by (exact extA))).ext ((Ext.refl _).at m)⟩)
      | (have h9 := (by assumption : ∀ z ∈ [x, y], hasL N z); have h8 : hasL N y ∧ hasL N x := ⟨h9 _ (by simp), h9 _ (by simp)⟩; first
        | (rw [andF_zero h8 (by omega)]; exact ⟨Ext.at (by (exact extA)) m, a, cap, rfl, (Sep.ext hS (by (exact extA))).ext ((Ext.refl _).at m)⟩)
        | (rw [andF_one h8 (by omega) (by omega)]; exact ⟨Ext.at (by (exact extA)) m, a, cap, rfl, (Sep.ext hS (by (exact extA))).ext ((Ext.refl _).at m)⟩)
        | (rw [andF_new h8 (by omega) (by omega) hm]; exact ⟨Ext.at (by (exact extA)) m, a', cap', rfl, (Sep.tail hS).ext ((Ext.refl _).at m)⟩)))
  · refine Spec.of _ Try.func113 rfl Try.ntmps113 (by kernel_rfl) rfl ?_
    repeat' (first
      | (apply WL.lit tOk; (iterate 6 exact rfl); (first | exact rfl | kernel_rfl | (simp [Instr.fill, catCells]; done)); exact rfl; intro gb w' hb hge hc hx; have hO := Own.of_block ([x, y]) encI_ok hb hge rfl)
      | ((show WL _ _ _ (⟨_, .call ⟨.value (.func 111), _, _⟩, _, _, _, _⟩ :: _) _ _ _); apply WL.callP; (iterate 4 exact rfl); exact aig_has _ _ _ _ _ N [x, y] _ _ (Ext.heap (by assumption) hC0) (Own.row encI_ok (by assumption)) (by omega); intro w' hx)
      | (apply W.condKT; exact rfl; (focus (first | exact dec_true (by omega) | exact dec_false (by omega); done)))
      | (apply W.condKF; exact rfl; (focus (first | exact dec_true (by omega) | exact dec_false (by omega); done)))
      | ((apply WL.xor1; (iterate 4 exact rfl); (focus (have h9 := (by assumption : ∀ z ∈ [x, y], hasL N z); have h8 := h9 x (by simp); unfold hasL at h8; omega))))
      | (apply WL.build tOk; (iterate 7 exact rfl); kernel_rfl)
      | (apply WL.alloc tOk; (iterate 3 exact rfl); intro gb w' hb hge hx; replace hS := Sep.newCell (Sep.ext hS (by (exact extA))) hx hb hge (by (first | exact Nat.le_refl _ | exact Below.size (by (exact extA)))); (try simp only [List.set_cons_zero, List.set_cons_succ] at hS); (try have hR0 := hS.row (i := 0) rfl); (try have hR1 := hS.row (i := 1) rfl); (try have hR2 := hS.row (i := 2) rfl); (try have hR3 := hS.row (i := 3) rfl); (try have hR4 := hS.row (i := 4) rfl); (try have hC0 := hS.cell (i := 0) rfl); (try have hD0 := (cells_heap hC0).1); (try have hE0 := (cells_heap hC0).2.1); (try have hF0 := (cells_heap hC0).2.2.1); (try have hG0 := (cells_heap hC0).2.2.2.1); (try have hC1 := hS.cell (i := 1) rfl); (try have hD1 := (cells_heap hC1).1); (try have hE1 := (cells_heap hC1).2.1); (try have hF1 := (cells_heap hC1).2.2.1); (try have hG1 := (cells_heap hC1).2.2.2.1); (try have hC2 := hS.cell (i := 2) rfl); (try have hD2 := (cells_heap hC2).1); (try have hE2 := (cells_heap hC2).2.1); (try have hF2 := (cells_heap hC2).2.2.1); (try have hG2 := (cells_heap hC2).2.2.2.1); (try have hC3 := hS.cell (i := 3) rfl); (try have hD3 := (cells_heap hC3).1); (try have hE3 := (cells_heap hC3).2.1); (try have hF3 := (cells_heap hC3).2.2.1); (try have hG3 := (cells_heap hC3).2.2.2.1); (try have hC4 := hS.cell (i := 4) rfl); (try have hD4 := (cells_heap hC4).1); (try have hE4 := (cells_heap hC4).2.1); (try have hF4 := (cells_heap hC4).2.2.1); (try have hG4 := (cells_heap hC4).2.2.2.1); (try have hM0 := hS.map (i := 0) rfl); (try have hM1 := hS.map (i := 1) rfl); (try have hM2 := hS.map (i := 2) rfl); (try have hM3 := hS.map (i := 3) rfl); (try have hM4 := hS.map (i := 4) rfl))
      | (apply WL.storeB (w0 := w0) tOk; (iterate 4 exact rfl); assumption; (exact extA); (iterate 3 exact rfl); (exact extA); (first | assumption | omega | (focus (apply Nat.le_trans; rotate_left; assumption; exact Below.size (by (exact extA)); done))); intro w' hb hc hX' hU; have hcc := hc; obtain ⟨h1, h2, _⟩ := hc; replace hS := Sep.updCell (i := 0) rfl hU hb hS (by (exact extA)) (by (first | exact Nat.le_refl _ | exact Below.size (by (exact extA)))); (try simp only [List.set_cons_zero, List.set_cons_succ] at hS); (try have hR0 := hS.row (i := 0) rfl); (try have hR1 := hS.row (i := 1) rfl); (try have hR2 := hS.row (i := 2) rfl); (try have hR3 := hS.row (i := 3) rfl); (try have hR4 := hS.row (i := 4) rfl); (try have hC0 := hS.cell (i := 0) rfl); (try have hD0 := (cells_heap hC0).1); (try have hE0 := (cells_heap hC0).2.1); (try have hF0 := (cells_heap hC0).2.2.1); (try have hG0 := (cells_heap hC0).2.2.2.1); (try have hC1 := hS.cell (i := 1) rfl); (try have hD1 := (cells_heap hC1).1); (try have hE1 := (cells_heap hC1).2.1); (try have hF1 := (cells_heap hC1).2.2.1); (try have hG1 := (cells_heap hC1).2.2.2.1); (try have hC2 := hS.cell (i := 2) rfl); (try have hD2 := (cells_heap hC2).1); (try have hE2 := (cells_heap hC2).2.1); (try have hF2 := (cells_heap hC2).2.2.1); (try have hG2 := (cells_heap hC2).2.2.2.1); (try have hC3 := hS.cell (i := 3) rfl); (try have hD3 := (cells_heap hC3).1); (try have hE3 := (cells_heap hC3).2.1); (try have hF3 := (cells_heap hC3).2.2.1); (try have hG3 := (cells_heap hC3).2.2.2.1); (try have hC4 := hS.cell (i := 4) rfl); (try have hD4 := (cells_heap hC4).1); (try have hE4 := (cells_heap hC4).2.1); (try have hF4 := (cells_heap hC4).2.2.1); (try have hG4 := (cells_heap hC4).2.2.2.1); (try have hM0 := hS.map (i := 0) rfl); (try have hM1 := hS.map (i := 1) rfl); (try have hM2 := hS.map (i := 2) rfl); (try have hM3 := hS.map (i := 3) rfl); (try have hM4 := hS.map (i := 4) rfl))
      | (apply QL.nilc; (iterate 3 exact rfl))
      | (apply QL.lookupSome (a := (y, x)) tOk keyN; (iterate 7 exact rfl); (first | assumption | exact MapIs.ext (by assumption) (by assumption)); exact hm)
      | (show WL _ _ _ _ _ _ _; first | apply WL.nil | (refine WL.au (k := ?_)) | (apply WL.guardF; exact rfl; exact rfl) | (apply WL.gD; exact rfl; exact rfl; all_goals intro _))
      | (show QL _ _ _ _ _ _ _; first | apply QL.nil | (refine QL.au (k := ?_)))
      | (show Z _ _ _ _ _; first | apply Z.then_normal | apply Z.block_normal | apply Z.then_ret | apply Z.block_ret)
      | (show W _ _ _ _ _ _; first | apply W.seq | apply W.region | apply W.block | apply W.skip | apply W.ret | (apply W.condT; exact rfl) | (apply W.condD; exact rfl; all_goals intro _) | (apply W.condN; exact rfl; all_goals intro _) | (apply W.regionD tMix; kernel_rfl))
      | fail)
    all_goals (refine Z.body1 Try.results113 rfl fun m => ?_)
    all_goals (first
      | (rw [andF_no (fun hh => (by assumption : ¬ ∀ z ∈ [x, y], hasL N z) (by intro z hz; simp only [List.mem_cons, List.not_mem_nil, or_false] at hz; rcases hz with rfl | rfl; exact hh.2; exact hh.1))]; exact ⟨Ext.at (by (exact extA)) m, a, cap, rfl, (Sep.ext hS (by (exact extA))).ext ((Ext.refl _).at m)⟩)
      | (have h9 := (by assumption : ∀ z ∈ [x, y], hasL N z); have h8 : hasL N y ∧ hasL N x := ⟨h9 _ (by simp), h9 _ (by simp)⟩; first
        | (rw [andF_zero h8 (by omega)]; exact ⟨Ext.at (by (exact extA)) m, a, cap, rfl, (Sep.ext hS (by (exact extA))).ext ((Ext.refl _).at m)⟩)
        | (rw [andF_one h8 (by omega) (by omega)]; exact ⟨Ext.at (by (exact extA)) m, a, cap, rfl, (Sep.ext hS (by (exact extA))).ext ((Ext.refl _).at m)⟩)
        | (rw [andF_old h8 (by omega) (by omega) hm]; exact ⟨Ext.at (by (exact extA)) m, a, cap, rfl, (Sep.tail hS).ext ((Ext.refl _).at m)⟩)))
end Go.Proofs.Yteidpnpbfagaeaa
namespace Go.Proofs.Yteidpnpbfagaeaa
open Go Go.Lt Go.RowKit
set_option linter.unusedVariables false
set_option linter.unusedSimpArgs false
set_option maxRecDepth 20000

theorem mget_snoc {κ ν : Type} (p q : κ) (v : ν) : ∀ L : List (κ × ν), mget p (L ++ [(q, v)]) = match mget p L with | some u => some u | none => bif dec (p = q) then some v else none
  | [] => by simp [mget]
  | x :: r => by
    have ih := mget_snoc p q v r
    simp only [List.cons_append, mget]
    cases dec (p = x.1)
    · exact ih
    · rfl
theorem gm_app (N L : List (Int × Int)) : ∀ k, k ≤ N.length → gm (N ++ L) k = gm N k
  | 0, _ => rfl
  | k + 1, h => by
    obtain ⟨x, hx⟩ := getI N (show k < N.length by omega)
    have ih := gm_app N L k (by omega)
    have hx' : (N ++ L)[k]? = some x := by rw [List.getElem?_append_left (by omega)]; exact hx
    rw [gm, gm, hx, hx', ih]
theorem gm_snoc_gate (N : List (Int × Int)) {x : Int × Int} (h : 0 ≤ x.1) : gm (N ++ [x]) (N ++ [x]).length = gm N N.length ++ [(x, 2 * ((N.length : Int) + 1))] := by
  rw [show (N ++ [x]).length = N.length + 1 by simp, gm]
  have hx : (N ++ [x])[N.length]? = some x := by simp
  rw [hx, gm_app N [x] _ (Nat.le_refl _)]
  exact if_pos h
theorem gm_snoc_in (N : List (Int × Int)) {x : Int × Int} (h : ¬ 0 ≤ x.1) : gm (N ++ [x]) (N ++ [x]).length = gm N N.length := by
  rw [show (N ++ [x]).length = N.length + 1 by simp, gm]
  have hx : (N ++ [x])[N.length]? = some x := by simp
  rw [hx, gm_app N [x] _ (Nat.le_refl _)]
  exact if_neg h
theorem gm_none {N : List (Int × Int)} {p : Int × Int} : ∀ k, (∀ j : Nat, j < k → N[j]? ≠ some p) → mget p (gm N k) = none
  | 0, _ => rfl
  | k + 1, h => by
    have ih := gm_none k (fun j hj => h j (by omega))
    rw [gm]
    cases hx : N[k]? with
    | none => exact ih
    | some x =>
      show mget p (if 0 ≤ x.1 then _ else _) = none
      split
      · rw [mget_snoc, ih]
        show (bif dec (p = x) then _ else _) = _
        rw [dec_false (fun hh => h k (by omega) (by rw [hx, hh]))]; rfl
      · exact ih
theorem gm_some {N : List (Int × Int)} {p : Int × Int} (hp : 0 ≤ p.1) {i : Nat} (hi : N[i]? = some p) (h : ∀ j : Nat, j < i → N[j]? ≠ some p) : ∀ k, i < k → mget p (gm N k) = some (2 * ((i : Int) + 1))
  | 0, hk => by omega
  | k + 1, hk => by
    rw [gm]
    by_cases hik : i = k
    · subst hik
      rw [hi]
      show mget p (if 0 ≤ p.1 then _ else _) = _
      rw [if_pos hp, mget_snoc, gm_none i h]
      show (bif dec (p = p) then _ else _) = _
      rw [dec_true rfl]; rfl
    · have ih := gm_some hp hi h k (by omega)
      cases hx : N[k]? with
      | none => exact ih
      | some x =>
        show mget p (if 0 ≤ x.1 then _ else _) = _
        split
        · rw [mget_snoc, ih]
        · exact ih
theorem first_of {N : List (Int × Int)} {p : Int × Int} : ∀ k, (∀ j : Nat, j < k → N[j]? ≠ some p) ∨ ∃ i, i < k ∧ N[i]? = some p ∧ ∀ j : Nat, j < i → N[j]? ≠ some p
  | 0 => .inl fun j h => by omega
  | k + 1 => by
    rcases first_of (N := N) (p := p) k with h | ⟨i, h1, h2, h3⟩
    · by_cases hk : N[k]? = some p
      · exact .inr ⟨k, by omega, hk, h⟩
      · exact .inl fun j hj => by
          by_cases hjk : j = k
          · subst hjk; exact hk
          · exact h j (by omega)
    · exact .inr ⟨i, by omega, h2, h3⟩

/-- The map of a store with these nodes. -/
abbrev gmN (N : List (Int × Int)) : List ((Int × Int) × Int) := gm N N.length
abbrev stN (B gs : Nat) (a : Option Addr) (cap r : Nat) (N : List (Int × Int)) : List Piece := stP B gs a cap r N (gmN N)
/-- And: what is told, and the nodes then. -/
noncomputable def andV (N : List (Int × Int)) (x y : Int) : Int × List (Int × Int) := if x ≤ y then ((andF N (gmN N) x y).v, (andF N (gmN N) x y).N) else ((andF N (gmN N) y x).v, (andF N (gmN N) y x).N)

/-- The five ways of And of two of which the first is not the greater. -/
theorem andF_ways {N : List (Int × Int)} {x y : Int} (hxy : x ≤ y) :
    (¬ (hasL N x ∧ hasL N y) ∧ andF N (gmN N) x y = ⟨-1, N, gmN N⟩) ∨
    ((hasL N x ∧ hasL N y) ∧ (x = 0 ∨ x = Lt.xor1 y) ∧ andF N (gmN N) x y = ⟨0, N, gmN N⟩) ∨
    ((hasL N x ∧ hasL N y) ∧ ¬ (x = 0 ∨ x = Lt.xor1 y) ∧ (x = 1 ∨ x = y) ∧ andF N (gmN N) x y = ⟨y, N, gmN N⟩) ∨
    ((hasL N x ∧ hasL N y) ∧ (2 ≤ x ∧ x / 2 < y / 2) ∧ (∃ i : Nat, i < N.length ∧ N[i]? = some (x, y) ∧ (∀ j : Nat, j < i → N[j]? ≠ some (x, y)) ∧ andF N (gmN N) x y = ⟨2 * ((i : Int) + 1), N, gmN N⟩)) ∨
    ((hasL N x ∧ hasL N y) ∧ (2 ≤ x ∧ x / 2 < y / 2) ∧ (∀ j : Nat, N[j]? ≠ some (x, y)) ∧ andF N (gmN N) x y = ⟨2 * ((N.length : Int) + 1), N ++ [(x, y)], gmN (N ++ [(x, y)])⟩) := by
  by_cases h : hasL N x ∧ hasL N y
  · by_cases h1 : x = 0 ∨ x = Lt.xor1 y
    · exact .inr (.inl ⟨h, h1, andF_zero h h1⟩)
    · by_cases h2 : x = 1 ∨ x = y
      · exact .inr (.inr (.inl ⟨h, h1, h2, andF_one h h1 h2⟩))
      · have hb : 2 ≤ x ∧ x / 2 < y / 2 := by
          have := h.1.1
          have h3 : x ≠ Lt.xor1 y := fun hh => h1 (.inr hh)
          unfold Lt.xor1 at h3
          split at h3 <;> omega
        rcases first_of (N := N) (p := (x, y)) N.length with hn | ⟨i, i1, i2, i3⟩
        · refine .inr (.inr (.inr (.inr ⟨h, hb, fun j => ?_, ?_⟩)))
          · by_cases hj : j < N.length
            · exact hn j hj
            · rw [List.getElem?_eq_none (by omega)]; exact fun hh => by cases hh
          · rw [andF_new h h1 h2 (gm_none _ hn)]
            show _ = AndR.mk _ _ (gm (N ++ [(x, y)]) (N ++ [(x, y)]).length)
            rw [gm_snoc_gate N (x := (x, y)) (by show 0 ≤ x; omega)]
        · exact .inr (.inr (.inr (.inl ⟨h, hb, i, i1, i2, i3, andF_old h h1 h2 (gm_some (by show 0 ≤ x; omega) i2 i3 _ i1)⟩)))
  · exact .inl ⟨h, andF_no h⟩
theorem andF_M {N : List (Int × Int)} {x y : Int} (hxy : x ≤ y) : (andF N (gmN N) x y).M = gmN (andF N (gmN N) x y).N := by
  rcases andF_ways (N := N) hxy with ⟨_, h⟩ | ⟨_, _, h⟩ | ⟨_, _, _, h⟩ | ⟨_, _, _, _, _, _, h⟩ | ⟨_, _, _, h⟩ <;> rw [h]

/-- What comes of nodes by Inputs and Ands. -/
inductive Grow : List (Int × Int) → List (Int × Int) → Prop
  | refl (N) : Grow N N
  | input {N M} : Grow N M → Grow N (M ++ [(-1, 0)])
  | gate {N M} (x y : Int) : Grow N M → Grow N (andV M x y).2
theorem Grow.trans {N M K : List (Int × Int)} (h : Grow N M) (k : Grow M K) : Grow N K := by
  induction k with
  | refl => exact h
  | input _ ih => exact .input ih
  | gate x y _ ih => exact .gate x y ih
theorem andV_ways (N : List (Int × Int)) (x y : Int) : ∃ a b : Int, ((a = x ∧ b = y) ∨ (a = y ∧ b = x)) ∧ a ≤ b ∧
    ((¬ (hasL N a ∧ hasL N b) ∧ andV N x y = (-1, N)) ∨
    ((hasL N a ∧ hasL N b) ∧ (a = 0 ∨ a = Lt.xor1 b) ∧ andV N x y = (0, N)) ∨
    ((hasL N a ∧ hasL N b) ∧ ¬ (a = 0 ∨ a = Lt.xor1 b) ∧ (a = 1 ∨ a = b) ∧ andV N x y = (b, N)) ∨
    ((hasL N a ∧ hasL N b) ∧ (2 ≤ a ∧ a / 2 < b / 2) ∧ (∃ i : Nat, i < N.length ∧ N[i]? = some (a, b) ∧ (∀ j : Nat, j < i → N[j]? ≠ some (a, b)) ∧ andV N x y = (2 * ((i : Int) + 1), N))) ∨
    ((hasL N a ∧ hasL N b) ∧ (2 ≤ a ∧ a / 2 < b / 2) ∧ (∀ j : Nat, N[j]? ≠ some (a, b)) ∧ andV N x y = (2 * ((N.length : Int) + 1), N ++ [(a, b)]))) := by
  have key : ∀ a b : Int, a ≤ b → andV N x y = ((andF N (gmN N) a b).v, (andF N (gmN N) a b).N) →
    ((¬ (hasL N a ∧ hasL N b) ∧ andV N x y = (-1, N)) ∨
    ((hasL N a ∧ hasL N b) ∧ (a = 0 ∨ a = Lt.xor1 b) ∧ andV N x y = (0, N)) ∨
    ((hasL N a ∧ hasL N b) ∧ ¬ (a = 0 ∨ a = Lt.xor1 b) ∧ (a = 1 ∨ a = b) ∧ andV N x y = (b, N)) ∨
    ((hasL N a ∧ hasL N b) ∧ (2 ≤ a ∧ a / 2 < b / 2) ∧ (∃ i : Nat, i < N.length ∧ N[i]? = some (a, b) ∧ (∀ j : Nat, j < i → N[j]? ≠ some (a, b)) ∧ andV N x y = (2 * ((i : Int) + 1), N))) ∨
    ((hasL N a ∧ hasL N b) ∧ (2 ≤ a ∧ a / 2 < b / 2) ∧ (∀ j : Nat, N[j]? ≠ some (a, b)) ∧ andV N x y = (2 * ((N.length : Int) + 1), N ++ [(a, b)]))) := by
    intro a b hab he
    rcases andF_ways (N := N) hab with ⟨h0, h⟩ | ⟨h0, h1, h⟩ | ⟨h0, h1, h2, h⟩ | ⟨h0, h1, i, i1, i2, i3, h⟩ | ⟨h0, h1, h2, h⟩
    · exact .inl ⟨h0, by rw [he, h]⟩
    · exact .inr (.inl ⟨h0, h1, by rw [he, h]⟩)
    · exact .inr (.inr (.inl ⟨h0, h1, h2, by rw [he, h]⟩))
    · exact .inr (.inr (.inr (.inl ⟨h0, h1, i, i1, i2, i3, by rw [he, h]⟩)))
    · exact .inr (.inr (.inr (.inr ⟨h0, h1, h2, by rw [he, h]⟩)))
  by_cases hxy : x ≤ y
  · exact ⟨x, y, .inl ⟨rfl, rfl⟩, hxy, key x y hxy (by rw [andV, if_pos hxy])⟩
  · exact ⟨y, x, .inr ⟨rfl, rfl⟩, by omega, key y x (by omega) (by rw [andV, if_neg hxy])⟩

theorem andV_len (N : List (Int × Int)) (x y : Int) : N.length ≤ (andV N x y).2.length ∧ (andV N x y).2.length ≤ N.length + 1 := by
  obtain ⟨a, b, _, _, h⟩ := andV_ways N x y
  rcases h with ⟨_, h⟩ | ⟨_, _, h⟩ | ⟨_, _, _, h⟩ | ⟨_, _, _, _, _, _, h⟩ | ⟨_, _, _, h⟩ <;> rw [h] <;> simp
theorem andV_has {N : List (Int × Int)} {x y : Int} (hx : hasL N x) (hy : hasL N y) : hasL (andV N x y).2 (andV N x y).1 := by
  obtain ⟨a, b, hab, _, h⟩ := andV_ways N x y
  have hh : hasL N a ∧ hasL N b := by rcases hab with ⟨rfl, rfl⟩ | ⟨rfl, rfl⟩; exact ⟨hx, hy⟩; exact ⟨hy, hx⟩
  rcases h with ⟨h1, _⟩ | ⟨_, _, h⟩ | ⟨_, _, _, h⟩ | ⟨_, _, i, hi, _, _, h⟩ | ⟨_, _, _, h⟩
  · exact absurd hh h1
  · rw [h]; unfold hasL; dsimp only; omega
  · rw [h]; exact hh.2
  · rw [h]; unfold hasL; dsimp only; omega
  · rw [h]; unfold hasL; simp; omega
theorem Grow.len {N M : List (Int × Int)} (h : Grow N M) : N.length ≤ M.length := by
  induction h with
  | refl => exact Nat.le_refl _
  | input _ ih => simp; omega
  | gate x y _ ih => rename_i M' _; have := andV_len M' x y; omega
theorem Grow.pre {N M : List (Int × Int)} (h : Grow N M) : ∀ {i : Nat} {x}, N[i]? = some x → M[i]? = some x := by
  induction h with
  | refl => exact fun h => h
  | input _ ih => intro i x hx; have := ih hx; rw [List.getElem?_append_left (lt_of_get this)]; exact this
  | gate x y _ ih =>
    rename_i M' _
    intro i z hz
    have := ih hz
    obtain ⟨a, b, _, _, h⟩ := andV_ways M' x y
    rcases h with ⟨_, h⟩ | ⟨_, _, h⟩ | ⟨_, _, _, h⟩ | ⟨_, _, _, _, _, _, h⟩ | ⟨_, _, _, h⟩ <;> rw [h]
    all_goals first | exact this | (show (M' ++ _)[i]? = _; rw [List.getElem?_append_left (lt_of_get this)]; exact this)
theorem hasL_mono {N M : List (Int × Int)} {x : Int} (h : hasL N x) (hl : N.length ≤ M.length) : hasL M x := by unfold hasL at h ⊢; omega
theorem Grow.has {N M : List (Int × Int)} {x : Int} (h : Grow N M) (hx : hasL N x) : hasL M x := hasL_mono hx h.len

structure Tidy (N : List (Int × Int)) : Prop where
  good : GoodNet N
  gate : ∀ i x, N[i]? = some x → 0 ≤ x.1 → 2 ≤ x.1 ∧ x.1 / 2 < x.2 / 2 ∧ ∀ k : Nat, k < i → N[k]? ≠ some x
theorem get_snoc {α : Type} {N : List α} {x y : α} {i : Nat} (h : (N ++ [x])[i]? = some y) : N[i]? = some y ∨ (i = N.length ∧ y = x) := by
  by_cases hi : i < N.length
  · rw [List.getElem?_append_left hi] at h; exact .inl h
  · have := lt_of_get h
    simp only [List.length_append, List.length_cons, List.length_nil] at this
    have : i = N.length := by omega
    subst this
    simp at h; exact .inr ⟨rfl, h.symm⟩
theorem Tidy.nil : Tidy [] := ⟨fun i x h => by simp at h, fun i x h => by simp at h⟩
theorem Tidy.input {N : List (Int × Int)} (h : Tidy N) : Tidy (N ++ [(-1, 0)]) := by
  refine ⟨fun i x hx => ?_, fun i x hx h0 => ?_⟩
  · rcases get_snoc hx with h1 | ⟨_, rfl⟩
    · exact h.good i x h1
    · unfold badNode; simp
  · rcases get_snoc hx with h1 | ⟨_, rfl⟩
    · obtain ⟨k1, k2, k3⟩ := h.gate i x h1 h0
      refine ⟨k1, k2, fun k hk hh => ?_⟩
      have := lt_of_get h1
      rw [List.getElem?_append_left (by omega)] at hh
      exact k3 k hk hh
    · simp at h0
theorem Tidy.and {N : List (Int × Int)} (h : Tidy N) (x y : Int) : Tidy (andV N x y).2 := by
  obtain ⟨a, b, _, _, hw⟩ := andV_ways N x y
  rcases hw with ⟨_, hw⟩ | ⟨_, _, hw⟩ | ⟨_, _, _, hw⟩ | ⟨_, _, _, _, _, _, hw⟩ | ⟨h0, h1, h2, hw⟩
  · rw [hw]; exact h
  · rw [hw]; exact h
  · rw [hw]; exact h
  · rw [hw]; exact h
  · rw [hw]
    show Tidy (N ++ [(a, b)])
    refine ⟨fun i z hz => ?_, fun i z hz hz0 => ?_⟩
    · rcases get_snoc hz with k | ⟨rfl, rfl⟩
      · exact h.good i z k
      · unfold badNode; unfold hasL at h0; dsimp only; omega
    · rcases get_snoc hz with k | ⟨rfl, rfl⟩
      · obtain ⟨k1, k2, k3⟩ := h.gate i z k hz0
        refine ⟨k1, k2, fun j hj hh => ?_⟩
        have := lt_of_get k
        rw [List.getElem?_append_left (by omega)] at hh
        exact k3 j hj hh
      · refine ⟨h1.1, h1.2, fun j hj hh => ?_⟩
        rw [List.getElem?_append_left (by omega)] at hh
        exact h2 j hh
theorem Grow.tidy {N M : List (Int × Int)} (h : Grow N M) (hN : Tidy N) : Tidy M := by
  induction h with
  | refl => exact hN
  | input _ ih => exact ih.input
  | gate x y _ ih => exact ih.and x y

theorem vto_app (N L : List (Int × Int)) (ins : List Bool) : ∀ k, k ≤ N.length → vto (N ++ L) ins k = vto N ins k := by
  intro k hk
  unfold vto
  rw [List.take_append_of_le_length hk]
theorem values_pre {N M : List (Int × Int)} (h : ∀ {i : Nat} {x}, N[i]? = some x → M[i]? = some x) (ins : List Bool) : ∀ k, k ≤ N.length → vto M ins k = vto N ins k := by
  intro k hk
  have hl : N.length ≤ M.length := by
    by_cases h0 : N.length = 0
    · omega
    · obtain ⟨x, hx⟩ := getI N (show N.length - 1 < N.length by omega)
      have := lt_of_get (h hx); omega
  have : M.take N.length = N := by
    apply List.ext_getElem?
    intro i
    by_cases hi : i < N.length
    · obtain ⟨x, hx⟩ := getI N hi
      rw [List.getElem?_take, if_pos hi, hx, h hx]
    · rw [List.getElem?_take, if_neg hi, List.getElem?_eq_none (by omega)]
  have e : M = M.take N.length ++ M.drop N.length := (List.take_append_drop _ _).symm
  rw [this] at e
  rw [e]; exact vto_app _ _ _ k hk
theorem Grow.of {N M : List (Int × Int)} (h : Grow N M) (ins : List Bool) {l : Int} (hl : hasL N l) : ofL (values M ins) l = ofL (values N ins) l := by
  unfold hasL at hl
  rw [← vto_of M ins (k := N.length) (by omega) h.len, values_pre h.pre ins _ (Nat.le_refl _)]; rfl
end Go.Proofs.Yteidpnpbfagaeaa
namespace Go.Proofs.Yteidpnpbfagaeaa
open Go Go.Lt Go.RowKit
set_option linter.unusedVariables false
set_option linter.unusedSimpArgs false
set_option maxRecDepth 20000

theorem slices_CloneI (a : Option Addr) (cap : Nat) (l : List Int) (w : World) (R : Row 1 encI w a l) (hna : a = none → cap = 0) (hl : l.length ≤ 1048576) :
    Lt.Spec Try.prog 78 [.slice a l.length cap] w (IsFresh 1 encI 3 w l) := by
  by_cases ha : a = none
  · subst ha
    have hl0 : l = [] := by
      cases l with
      | nil => rfl
      | cons x r => obtain ⟨b, off, h1, _⟩ := R.elem 0 x rfl; cases h1
    subst hl0
    refine Spec.of _ Try.func78 rfl Try.ntmps78 (by kernel_rfl) rfl ?_
    repeat' (first
      | (apply WL.eqSl tOk; (iterate 6 exact rfl))
      | (apply W.condKT; exact rfl; (focus (exact dec_true rfl; done)))
      | (show WL _ _ _ _ _ _ _; first | apply WL.nil | (refine WL.au (k := ?_)))
      | (show Z _ _ _ _ _; first | apply Z.then_normal | apply Z.then_ret)
      | (show W _ _ _ _ _ _; first | apply W.seq | apply W.region | apply W.ret)
      | fail)
    exact Z.body1 Try.results78 rfl fun m => ⟨(Ext.refl _).at m, none, 0, rfl, Own.nil⟩
  · refine Spec.of _ Try.func78 rfl Try.ntmps78 (by kernel_rfl) rfl ?_
    repeat' (first
      | (apply WL.eqSl tOk; (iterate 6 exact rfl))
      | (apply W.condKF; exact rfl; (focus (exact dec_false ha; done)))
      | (apply WL.lit (len := 0) tOk; (iterate 6 exact rfl); (first | exact rfl | kernel_rfl | (simp [Instr.fill, catCells]; done)); exact rfl; intro gb w' hb hge hc hx; have hO0 := Own.of_block0 (enc := encI) (s := 1) hb hge)
      | (apply WL.appendS tOk encI_ok; (iterate 10 exact rfl); assumption; (exact extA); (first | exact rfl | (focus (simp only [List.length_set]; done)) | (focus (simp; done)) | (focus (simp [*]; done)) | omega | (focus (simp only [List.length_set]; omega))); assumption; (exact extA); (first | exact rfl | (focus (simp only [List.length_set]; done)) | (focus (simp; done)) | (focus (simp [*]; done)) | omega | (focus (simp only [List.length_set]; omega))); (first | assumption | (intro h; cases h) | exact Own.noneCap (by assumption)); exact rfl; (exact extA); (first | omega | (simp; omega) | (simp at *; omega)); intro a' cap' w' hO hX' hU hF)
      | (show WL _ _ _ _ _ _ _; first | apply WL.nil | (refine WL.au (k := ?_)))
      | (show Z _ _ _ _ _; apply Z.then_normal)
      | (show W _ _ _ _ _ _; first | apply W.seq | apply W.region | apply W.skip | apply W.ret)
      | fail)
    exact Z.body1 Try.results78 rfl fun m => ⟨Ext.at (by (exact extA)) m, a', cap', by rw [List.nil_append], by rw [List.nil_append] at hO; exact hO⟩
theorem slices_CloneN (a : Option Addr) (cap : Nat) (l : List (Int × Int)) (w : World) (R : Row 2 encN w a l) (hna : a = none → cap = 0) (hl : l.length ≤ 1048576) :
    Lt.Spec Try.prog 116 [.slice a l.length cap] w (IsFresh 2 encN 105 w l) := by
  by_cases ha : a = none
  · subst ha
    have hl0 : l = [] := by
      cases l with
      | nil => rfl
      | cons x r => obtain ⟨b, off, h1, _⟩ := R.elem 0 x rfl; cases h1
    subst hl0
    refine Spec.of _ Try.func116 rfl Try.ntmps116 (by kernel_rfl) rfl ?_
    repeat' (first
      | (apply WL.eqSl tOk; (iterate 6 exact rfl))
      | (apply W.condKT; exact rfl; (focus (exact dec_true rfl; done)))
      | (show WL _ _ _ _ _ _ _; first | apply WL.nil | (refine WL.au (k := ?_)))
      | (show Z _ _ _ _ _; first | apply Z.then_normal | apply Z.then_ret)
      | (show W _ _ _ _ _ _; first | apply W.seq | apply W.region | apply W.ret)
      | fail)
    exact Z.body1 Try.results116 rfl fun m => ⟨(Ext.refl _).at m, none, 0, rfl, Own.nil⟩
  · refine Spec.of _ Try.func116 rfl Try.ntmps116 (by kernel_rfl) rfl ?_
    repeat' (first
      | (apply WL.eqSl tOk; (iterate 6 exact rfl))
      | (apply W.condKF; exact rfl; (focus (exact dec_false ha; done)))
      | (apply WL.lit (len := 0) tOk; (iterate 6 exact rfl); (first | exact rfl | kernel_rfl | (simp [Instr.fill, catCells]; done)); exact rfl; intro gb w' hb hge hc hx; have hO0 := Own.of_block0 (enc := encN) (s := 2) hb hge)
      | (apply WL.appendS tOk encN_ok; (iterate 10 exact rfl); assumption; (exact extA); (first | exact rfl | (focus (simp only [List.length_set]; done)) | (focus (simp; done)) | (focus (simp [*]; done)) | omega | (focus (simp only [List.length_set]; omega))); assumption; (exact extA); (first | exact rfl | (focus (simp only [List.length_set]; done)) | (focus (simp; done)) | (focus (simp [*]; done)) | omega | (focus (simp only [List.length_set]; omega))); (first | assumption | (intro h; cases h) | exact Own.noneCap (by assumption)); exact rfl; (exact extA); (first | omega | (simp; omega) | (simp at *; omega)); intro a' cap' w' hO hX' hU hF)
      | (show WL _ _ _ _ _ _ _; first | apply WL.nil | (refine WL.au (k := ?_)))
      | (show Z _ _ _ _ _; apply Z.then_normal)
      | (show W _ _ _ _ _ _; first | apply W.seq | apply W.region | apply W.skip | apply W.ret)
      | fail)
    exact Z.body1 Try.results116 rfl fun m => ⟨Ext.at (by (exact extA)) m, a', cap', by rw [List.nil_append], by rw [List.nil_append] at hO; exact hO⟩
end Go.Proofs.Yteidpnpbfagaeaa
namespace Go.Proofs.Yteidpnpbfagaeaa
open Go Go.Lt Go.RowKit
set_option linter.unusedVariables false
set_option linter.unusedSimpArgs false
set_option maxRecDepth 20000

/-- What a call on a store leaves: a literal, and these nodes. -/
abbrev AtSt (w0 : World) (gs r : Nat) (rest : List Piece) (q : Int × List (Int × Int)) (v : Value) (w' : World) : Prop :=
  Ext w0 w' ∧ ∃ a' cap', v = .int .i64 q.1 ∧ Sep w0.heap.size w' (stN w0.heap.size gs a' cap' r q.2 ++ rest)
/-- What holds wherever the store goes. -/
abbrev Keeps (w0 : World) (gs r : Nat) (rest : List Piece) (p : World → Prop) : Prop :=
  ∀ w' a' cap' N', Ext w0 w' → Sep w0.heap.size w' (stN w0.heap.size gs a' cap' r N' ++ rest) → p w'

theorem aig_And (gs r cap : Nat) (a : Option Addr) (N : List (Int × Int)) (x y : Int) (rest : List Piece) (w w0 : World) (hX : Ext w0 w) (hS : Sep w0.heap.size w (stN w0.heap.size gs a cap r N ++ rest)) (hN : N.length < 1048576) :
    Lt.Spec Try.prog 113 [.pointer (some ⟨gs, 0, none⟩), .int .i64 x, .int .i64 y] w (AtSt w0 gs r rest (andV N x y)) := by
  by_cases hxy : x ≤ y
  · refine (aig_AndLe gs r cap a N (gmN N) x y rest w w0 hX hS hN hxy).mono ?_
    rintro v w' ⟨h1, a', cap', h2, h3⟩
    rw [andF_M hxy] at h3
    have e : andV N x y = ((andF N (gmN N) x y).v, (andF N (gmN N) x y).N) := if_pos hxy
    rw [e]
    exact ⟨h1, a', cap', h2, h3⟩
  · refine (aig_AndGt gs r cap a N (gmN N) x y rest w w0 hX hS hN (by omega)).mono ?_
    rintro v w' ⟨h1, a', cap', h2, h3⟩
    rw [andF_M (by omega)] at h3
    have e : andV N x y = ((andF N (gmN N) y x).v, (andF N (gmN N) y x).N) := if_neg hxy
    rw [e]
    exact ⟨h1, a', cap', h2, h3⟩
theorem aig_InputV (gs r cap : Nat) (a : Option Addr) (N : List (Int × Int)) (rest : List Piece) (w w0 : World) (hX : Ext w0 w) (hS : Sep w0.heap.size w (stN w0.heap.size gs a cap r N ++ rest)) (hN : N.length < 1048576) :
    Lt.Spec Try.prog 90 [.pointer (some ⟨gs, 0, none⟩)] w (AtSt w0 gs r rest (2 * ((N.length : Int) + 1), N ++ [(-1, 0)])) := by
  refine (aig_Input gs r cap a N (gmN N) rest w w0 hX hS hN).mono ?_
  rintro v w' ⟨h1, a', cap', h2, h3⟩
  have e : gmN N = gmN (N ++ [(-1, 0)]) := (gm_snoc_in N (x := (-1, 0)) (by decide)).symm
  rw [e] at h3
  exact ⟨h1, a', cap', h2, h3⟩
theorem aig_NewV (w w0 : World) (rest : List Piece) (hX : Ext w0 w) (hS : Sep w0.heap.size w rest) :
    Lt.Spec Try.prog 54 [] w (fun v w' => Ext w w' ∧ ∃ gs r, v = .pointer (some ⟨gs, 0, none⟩) ∧ Sep w0.heap.size w' (stN w0.heap.size gs none 0 r [] ++ rest)) := by
  refine Spec.of _ Try.func54 rfl Try.ntmps54 (by kernel_rfl) rfl ?_
  repeat' (first
    | ((apply WL.makeMap (kv := kvN) (vv := vvI); exact rfl; exact rfl; intro r w1 hM hge1 hx1))
    | (apply WL.build tOk; (iterate 7 exact rfl); kernel_rfl)
    | (apply WL.box; (iterate 3 exact rfl); intro gb w' hb hge hc hx; have hcc := hc; (first | (obtain ⟨h1, h2, h3, _⟩ := hc) | (obtain ⟨h1, h2, _⟩ := hc)))
    | (show WL _ _ _ _ _ _ _; first | apply WL.nil | (refine WL.au (k := ?_)))
    | (show Z _ _ _ _ _; apply Z.then_normal)
    | (show W _ _ _ _ _ _; first | apply W.seq | apply W.region | apply W.ret)
    | fail)
  have hB : w0.heap.size ≤ w.heap.size := hX.size
  have hS1 : Lt.Sep w0.heap.size w1 (pmap kvN vvI r [] :: rest) := Sep.newMap hS hx1 hM hge1 hB
  have hS2 : Lt.Sep w0.heap.size w1 (prow 2 encN 105 w0.heap.size none 0 [] :: pmap kvN vvI r [] :: rest) := Sep.newRow hS1 (Ext.refl _) Own.nil (fun k hk => by cases hk) (Nat.le_trans hB hx1.size)
  have hS : Lt.Sep w0.heap.size w' (stN w0.heap.size gb none 0 r [] ++ rest) := Sep.newCell hS2 hx hb hge (Nat.le_trans hB hx1.size)
  exact Z.body1 Try.results54 rfl fun m => ⟨Ext.at (by (exact extA)) m, gb, r, rfl, hS.ext ((Ext.refl _).at m)⟩

end Go.Proofs.Yteidpnpbfagaeaa
namespace Go.Proofs.Yteidpnpbfagaeaa
open Go Go.Lt Go.RowKit
set_option linter.unusedVariables false
set_option linter.unusedSimpArgs false
set_option maxRecDepth 20000

noncomputable def litI (l : List Int) (x : Int) : Int := xorI (l.getD (x / 2).toNat 0) (x % 2)
noncomputable def cstep (ins : List Int) (s : List Int × Nat × List (Int × Int)) (x : Int × Int) : List Int × Nat × List (Int × Int) :=
  if 0 ≤ x.1 then (s.1 ++ [(andV s.2.2 (litI s.1 x.1) (litI s.1 x.2)).1], s.2.1, (andV s.2.2 (litI s.1 x.1) (litI s.1 x.2)).2)
  else if s.2.1 < ins.length then (s.1 ++ [ins.getD s.2.1 0], s.2.1 + 1, s.2.2)
  else (s.1 ++ [2 * ((s.2.2.length : Int) + 1)], s.2.1 + 1, s.2.2 ++ [(-1, 0)])
noncomputable def cto (N n : List (Int × Int)) (ins : List Int) (k : Nat) : List Int × Nat × List (Int × Int) := (n.take k).foldl (cstep ins) ([0], 0, N)
noncomputable def copyV (N n : List (Int × Int)) (ins : List Int) : List Int × List (Int × Int) := bif dec (∀ z ∈ ins, hasL N z) then ((cto N n ins n.length).1, (cto N n ins n.length).2.2) else ([], N)
theorem cto_succ {N n : List (Int × Int)} {ins : List Int} {k : Nat} {x : Int × Int} (h : n[k]? = some x) : cto N n ins (k + 1) = cstep ins (cto N n ins k) x := by
  unfold cto; rw [take_succ' h, List.foldl_append]; rfl
theorem hasL_xor1 {N : List (Int × Int)} {x : Int} (h : hasL N x) : hasL N (Lt.xor1 x) := by
  unfold hasL at h ⊢
  unfold Lt.xor1
  split <;> omega
theorem hasL_litI {N : List (Int × Int)} {l : List Int} {x : Int} (h : ∀ z ∈ l, hasL N z) (hx : (x / 2).toNat < l.length) : hasL N (litI l x) := by
  obtain ⟨z, hz⟩ := getI l hx
  have := h z (List.mem_of_getElem? hz)
  unfold litI xorI
  rw [getD_of hz]
  split
  · exact hasL_xor1 this
  · exact this
theorem cto_inv {N n : List (Int × Int)} {ins : List Int} (hg : GoodNet n) (h : ∀ z ∈ ins, hasL N z) : ∀ k, k ≤ n.length →
    (cto N n ins k).1.length = k + 1 ∧ (∀ z ∈ (cto N n ins k).1, hasL (cto N n ins k).2.2 z) ∧ N.length ≤ (cto N n ins k).2.2.length ∧ (cto N n ins k).2.2.length ≤ N.length + k ∧ Grow N (cto N n ins k).2.2 ∧ (cto N n ins k).2.1 ≤ k
  | 0, _ => by
    refine ⟨rfl, fun z hz => ?_, Nat.le_refl _, Nat.le_refl _, .refl N, Nat.le_refl _⟩
    obtain rfl : z = 0 := by simpa [cto] using hz
    unfold hasL; omega
  | k + 1, hk => by
    obtain ⟨x, hx⟩ := getI n (show k < n.length by omega)
    obtain ⟨i1, i2, i3, i4, i5, i6⟩ := cto_inv hg h k (by omega)
    rw [cto_succ hx]
    generalize cto N n ins k = s at i1 i2 i3 i4 i5 i6
    unfold cstep
    split
    · rename_i h0
      have hgt := hg.gate hx h0
      have hl := andV_len s.2.2 (litI s.1 x.1) (litI s.1 x.2)
      have hv := andV_has (hasL_litI i2 (x := x.1) (by omega)) (hasL_litI i2 (x := x.2) (by omega))
      refine ⟨by simp [i1], fun z hz => ?_, by dsimp only; omega, by dsimp only; omega, .gate _ _ i5, by dsimp only; omega⟩
      rcases List.mem_append.1 hz with h1 | h1
      · exact hasL_mono (i2 z h1) hl.1
      · obtain rfl := List.mem_singleton.1 h1; exact hv
    · split
      · rename_i h0 h1
        refine ⟨by simp [i1], fun z hz => ?_, i3, by dsimp only; omega, i5, by dsimp only; omega⟩
        rcases List.mem_append.1 hz with h2 | h2
        · exact i2 z h2
        · obtain rfl := List.mem_singleton.1 h2
          obtain ⟨y, hy⟩ := getI ins h1
          rw [getD_of hy]
          exact hasL_mono (h y (List.mem_of_getElem? hy)) i3
      · refine ⟨by simp [i1], fun z hz => ?_, by simp; omega, by simp; omega, .input i5, by dsimp only; omega⟩
        rcases List.mem_append.1 hz with h2 | h2
        · exact hasL_mono (i2 z h2) (by simp)
        · obtain rfl := List.mem_singleton.1 h2
          unfold hasL; simp; omega

theorem Sep.back32 {B : Nat} {w : World} {p q a b c : Piece} {rs : List Piece} (hS : Sep B w (p :: q :: a :: b :: c :: rs)) : Sep B w (a :: b :: c :: p :: q :: rs) := by
  refine Sep.sub' (fun i => if i < 3 then i + 2 else if i < 5 then i - 3 else i) hS (fun i x h => ?_) (fun i j hi hj hne => ?_)
  · match i, h with
    | 0, h => exact h
    | 1, h => exact h
    | 2, h => exact h
    | 3, h => exact h
    | 4, h => exact h
    | i + 5, h =>
      simp only [show ¬ i + 5 < 3 by omega, show ¬ i + 5 < 5 by omega, if_false]; exact h
  · split <;> split <;> (try split) <;> (try split) <;> omega
theorem Sep.back31 {B : Nat} {w : World} {p a b c : Piece} {rs : List Piece} (hS : Sep B w (p :: a :: b :: c :: rs)) : Sep B w (a :: b :: c :: p :: rs) := by
  refine Sep.sub' (fun i => if i < 3 then i + 1 else if i < 4 then i - 3 else i) hS (fun i x h => ?_) (fun i j hi hj hne => ?_)
  · match i, h with
    | 0, h => exact h
    | 1, h => exact h
    | 2, h => exact h
    | 3, h => exact h
    | i + 4, h =>
      simp only [show ¬ i + 4 < 3 by omega, show ¬ i + 4 < 4 by omega, if_false]; exact h
  · split <;> split <;> (try split) <;> (try split) <;> omega
theorem Sep.drop34 {B : Nat} {w : World} {p q a b c : Piece} {rs : List Piece} (hS : Sep B w (a :: b :: c :: p :: q :: rs)) : Sep B w (a :: b :: c :: rs) := by
  refine Sep.sub' (fun i => if i < 3 then i else i + 2) hS (fun i x h => ?_) (fun i j hi hj hne => ?_)
  · match i, h with
    | 0, h => exact h
    | 1, h => exact h
    | 2, h => exact h
    | i + 3, h => simp only [show ¬ i + 3 < 3 by omega, if_false]; exact h
  · split <;> split <;> omega
theorem Sep.drop3 {B : Nat} {w : World} {p a b c : Piece} {rs : List Piece} (hS : Sep B w (a :: b :: c :: p :: rs)) : Sep B w (a :: b :: c :: rs) := by
  refine Sep.sub' (fun i => if i < 3 then i else i + 1) hS (fun i x h => ?_) (fun i j hi hj hne => ?_)
  · match i, h with
    | 0, h => exact h
    | 1, h => exact h
    | 2, h => exact h
    | i + 3, h => simp only [show ¬ i + 3 < 3 by omega, if_false]; exact h
  · split <;> split <;> omega

theorem aig_Copy1 (g7 lc : Nat) (la : Option Addr) (L : List Int) (x z : Int) (w : World) (hc : w.heap[g7]? = some (.cells #[.slice la L.length lc] 22 (0, 0))) (RL : Row 1 encI w la L) (hz : L[(x / 2).toNat]? = some z) (hx : 0 ≤ x ∧ x ≤ 9223372036854775807) (hz0 : 0 ≤ z ∧ z ≤ 9223372036854775806) :
    Still Try.prog 112 ([.int .i64 x] ++ [.pointer (some ⟨g7, 0, none⟩)]) w (.int .i64 (litI L x)) := by
  obtain ⟨h1, _⟩ := cells_heap hc
  have hl := RL.len
  rw [litI, getD_of hz]
  refine Spec.of _ Try.func112 rfl Try.ntmps112 (by kernel_rfl) rfl ?_
  repeat' (first
    | (apply WL.and1; (iterate 4 exact rfl); omega)
    | (apply WL.xorI; (iterate 4 exact rfl); omega; omega)
    | (show WL _ _ _ _ _ _ _; first | apply WL.nil | (refine WL.au (k := ?_)) | (apply WL.index tOk; (iterate 8 exact rfl); assumption; (exact extA); exact rfl; omega; assumption; intro b off h; have hcc := h; first | (obtain ⟨h1, h2, h3, h4, h5, h6, _⟩ := h) | (obtain ⟨h1, h2, h3, _⟩ := h) | (obtain ⟨h1, h2, _⟩ := h) | (obtain ⟨h1, _⟩ := h)))
    | (show Z _ _ _ _ _; apply Z.then_normal)
    | (show W _ _ _ _ _ _; first | apply W.seq | apply W.region | apply W.ret)
    | fail)
  exact Z.body1 Try.results112 rfl fun m => ⟨rfl, m, rfl⟩

abbrev AtCopy (w0 : World) (gs r : Nat) (rest : List Piece) (q : List Int × List (Int × Int)) (v : Value) (w' : World) : Prop :=
  Ext w0 w' ∧ ∃ a' cap' la lc, v = .slice la q.1.length lc ∧ Sep w0.heap.size w' (stN w0.heap.size gs a' cap' r q.2 ++ (prow 1 encI 3 w0.heap.size la lc q.1 :: rest))

set_option maxHeartbeats 8000000 in
theorem aig_CopyV (gs r cap cn cl : Nat) (a an al : Option Addr) (N n : List (Int × Int)) (ins : List Int) (rest : List Piece) (w w0 : World) (hX : Ext w0 w) (hS : Sep w0.heap.size w (stN w0.heap.size gs a cap r N ++ rest)) (hN : N.length + n.length < 1048576) (hg : GoodNet n) (hcl : ins.length ≤ cl)
    (hn : Keeps w0 gs r rest (fun w' => Row 2 encN w' an n)) (hi : Keeps w0 gs r rest (fun w' => Row 1 encI w' al ins)) :
    Lt.Spec Try.prog 55 [.pointer (some ⟨gs, 0, none⟩), .slice an n.length cn, .slice al ins.length cl] w (AtCopy w0 gs r rest (copyV N n ins)) := by
  have hC0 := hS.cell (i := 0) rfl
  have RI := hi w a cap N hX hS
  have hli := RI.len
  by_cases hh : ∀ z ∈ ins, hasL N z
  · have e : copyV N n ins = ((cto N n ins n.length).1, (cto N n ins n.length).2.2) := by unfold copyV; rw [dec_true hh]; rfl
    rw [e]
    refine Spec.of _ Try.func55 rfl Try.ntmps55 (by kernel_rfl) rfl ?_
    repeat' (first
      | ((show WL _ _ _ (⟨_, .call ⟨.value (.func 111), _, _⟩, _, _, _, _⟩ :: _) _ _ _); apply WL.callP; (iterate 4 exact rfl); exact aig_has _ _ _ _ _ N ins _ _ hC0 RI (by omega); intro w' hx)
      | (apply W.condKF; exact rfl; (focus ((rw [dec_true hh]; rfl); done)))
      | (show WL _ _ _ _ _ _ _; first | apply WL.nil | (refine WL.au (k := ?_)))
      | (show Z _ _ _ _ _; apply Z.then_normal)
      | (show W _ _ _ _ _ _; first | apply W.seq | apply W.region | apply W.skip)
      | fail)
    have hx1 := hx
    obtain ⟨w1, rfl⟩ : ∃ x, x = w' := ⟨_, rfl⟩
    replace hS := hS.ext hx1
    have hX1 : Ext w0 w1 := hX.trans hx1
    repeat' (first
      | (apply WL.makeC (w0 := w0) (z := (0:Int)) tOk; (iterate 9 exact rfl); exact encI_ok; exact rfl; exact rfl; (exact extA); (first | omega | (simp; omega) | (simp at *; omega)); intro gb w' hO hge hx)
      | fail)
    obtain ⟨gl, rfl⟩ : ∃ x, x = gb := ⟨_, rfl⟩
    replace hS := Sep.newRow hS hx (hO : Own 1 encI 3 w0.heap.size w' _ _ [0]) (fun k hk => by cases hk; exact hge) hX1.size
    repeat' (first
      | (apply WL.alloc tOk; (iterate 3 exact rfl); intro gb w' hb hge hx; replace hS := Sep.newCell (Sep.ext hS (by (exact extA))) hx hb hge (by (first | exact Nat.le_refl _ | exact Below.size (by (exact extA)))); (try simp only [List.set_cons_zero, List.set_cons_succ] at hS); (try have hR0 := hS.row (i := 0) rfl); (try have hR1 := hS.row (i := 1) rfl); (try have hR2 := hS.row (i := 2) rfl); (try have hR3 := hS.row (i := 3) rfl); (try have hR4 := hS.row (i := 4) rfl); (try have hC0 := hS.cell (i := 0) rfl); (try have hD0 := (cells_heap hC0).1); (try have hE0 := (cells_heap hC0).2.1); (try have hF0 := (cells_heap hC0).2.2.1); (try have hG0 := (cells_heap hC0).2.2.2.1); (try have hC1 := hS.cell (i := 1) rfl); (try have hD1 := (cells_heap hC1).1); (try have hE1 := (cells_heap hC1).2.1); (try have hF1 := (cells_heap hC1).2.2.1); (try have hG1 := (cells_heap hC1).2.2.2.1); (try have hC2 := hS.cell (i := 2) rfl); (try have hD2 := (cells_heap hC2).1); (try have hE2 := (cells_heap hC2).2.1); (try have hF2 := (cells_heap hC2).2.2.1); (try have hG2 := (cells_heap hC2).2.2.2.1); (try have hC3 := hS.cell (i := 3) rfl); (try have hD3 := (cells_heap hC3).1); (try have hE3 := (cells_heap hC3).2.1); (try have hF3 := (cells_heap hC3).2.2.1); (try have hG3 := (cells_heap hC3).2.2.2.1); (try have hC4 := hS.cell (i := 4) rfl); (try have hD4 := (cells_heap hC4).1); (try have hE4 := (cells_heap hC4).2.1); (try have hF4 := (cells_heap hC4).2.2.1); (try have hG4 := (cells_heap hC4).2.2.2.1); (try have hM0 := hS.map (i := 0) rfl); (try have hM1 := hS.map (i := 1) rfl); (try have hM2 := hS.map (i := 2) rfl); (try have hM3 := hS.map (i := 3) rfl); (try have hM4 := hS.map (i := 4) rfl))
      | (apply WL.storeB (w0 := w0) tOk; (iterate 4 exact rfl); assumption; (exact extA); (iterate 3 exact rfl); (exact extA); (first | assumption | omega | (focus (apply Nat.le_trans; rotate_left; assumption; exact Below.size (by (exact extA)); done))); intro w' hb hc hX' hU; have hcc := hc; obtain ⟨h1, h2, _⟩ := hc; (first | replace hS := Sep.updCell (i := 0) rfl hU hb hS (by (exact extA)) (by (first | exact Nat.le_refl _ | exact Below.size (by (exact extA)))) | replace hS := Sep.updCell (i := 1) rfl hU hb hS (by (exact extA)) (by (first | exact Nat.le_refl _ | exact Below.size (by (exact extA)))) | replace hS := Sep.updCell (i := 2) rfl hU hb hS (by (exact extA)) (by (first | exact Nat.le_refl _ | exact Below.size (by (exact extA)))) | replace hS := Sep.updCell (i := 3) rfl hU hb hS (by (exact extA)) (by (first | exact Nat.le_refl _ | exact Below.size (by (exact extA))))); (try simp only [List.set_cons_zero, List.set_cons_succ] at hS); (try have hR0 := hS.row (i := 0) rfl); (try have hR1 := hS.row (i := 1) rfl); (try have hR2 := hS.row (i := 2) rfl); (try have hR3 := hS.row (i := 3) rfl); (try have hR4 := hS.row (i := 4) rfl); (try have hC0 := hS.cell (i := 0) rfl); (try have hD0 := (cells_heap hC0).1); (try have hE0 := (cells_heap hC0).2.1); (try have hF0 := (cells_heap hC0).2.2.1); (try have hG0 := (cells_heap hC0).2.2.2.1); (try have hC1 := hS.cell (i := 1) rfl); (try have hD1 := (cells_heap hC1).1); (try have hE1 := (cells_heap hC1).2.1); (try have hF1 := (cells_heap hC1).2.2.1); (try have hG1 := (cells_heap hC1).2.2.2.1); (try have hC2 := hS.cell (i := 2) rfl); (try have hD2 := (cells_heap hC2).1); (try have hE2 := (cells_heap hC2).2.1); (try have hF2 := (cells_heap hC2).2.2.1); (try have hG2 := (cells_heap hC2).2.2.2.1); (try have hC3 := hS.cell (i := 3) rfl); (try have hD3 := (cells_heap hC3).1); (try have hE3 := (cells_heap hC3).2.1); (try have hF3 := (cells_heap hC3).2.2.1); (try have hG3 := (cells_heap hC3).2.2.2.1); (try have hC4 := hS.cell (i := 4) rfl); (try have hD4 := (cells_heap hC4).1); (try have hE4 := (cells_heap hC4).2.1); (try have hF4 := (cells_heap hC4).2.2.1); (try have hG4 := (cells_heap hC4).2.2.2.1); (try have hM0 := hS.map (i := 0) rfl); (try have hM1 := hS.map (i := 1) rfl); (try have hM2 := hS.map (i := 2) rfl); (try have hM3 := hS.map (i := 3) rfl); (try have hM4 := hS.map (i := 4) rfl))
      | (show WL _ _ _ _ _ _ _; first | apply WL.nil | (refine WL.au (k := ?_)))
      | (show Z _ _ _ _ _; apply Z.then_normal)
      | (show W _ _ _ _ _ _; first | apply W.seq | apply W.region | apply W.block)
      | fail)
    have hS0 := Sep.back32 hS
    obtain ⟨g7, rfl⟩ : ∃ x, x = gb := ⟨_, rfl⟩
    refine W.loopO2 n.length (fun k la lc bi bd w' => k ≤ n.length ∧ Ext w0 w' ∧ (∃ a' cap', Sep w0.heap.size w' (stN w0.heap.size gs a' cap' r (cto N n ins k).2.2 ++ (pcell g7 #[.slice la (cto N n ins k).1.length lc] 22 :: prow 1 encI 3 w0.heap.size la lc (cto N n ins k).1 :: rest))) ∧ Keeps w0 gs r rest (fun w' => Row 1 encI w' bi (ins.drop (cto N n ins k).2.1)) ∧ (ins.drop (cto N n ins k).2.1).length ≤ bd)
      (fun k la lc bi bd => [(0, .pointer (some ⟨gs, 0, none⟩)), (2, .slice bi (ins.drop (cto N n ins k).2.1).length bd), (7, .pointer (some ⟨g7, 0, none⟩)), (8, .func (.func 112) #[] #[.pointer (some ⟨g7, 0, none⟩)]), (21, .slice an n.length cn), (22, .int .i64 n.length), (23, .int .i64 k)])
      (some ⟨gl, 0, none⟩) _ al cl ⟨by omega, (by (exact extA)), ⟨a, cap, hS0⟩, hi, hcl⟩ (fun k la lc bi bd w' h => h.1) ⟨rfl, rfl, rfl, rfl, rfl, rfl, rfl, trivial⟩ ?_
    rintro k la lc bi bd w9 ⟨hk, hX9, ⟨a2, cap2, hS9⟩, hib, hbd⟩
    obtain ⟨i1, i2, i3, i4, i5, i6⟩ := cto_inv (N := N) hg hh k hk
    have Rn := hn _ _ _ _ hX9 (Sep.drop34 hS9)
    have Ri := hib _ _ _ _ hX9 (Sep.drop34 hS9)
    have hS := hS9
    by_cases hlt : k < n.length
    · obtain ⟨x, hxn⟩ := getI n hlt
      have hs := cto_succ (N := N) (ins := ins) hxn
      by_cases hin : 0 ≤ x.1
      · have hgt := hg.gate hxn hin
        obtain ⟨za, hza⟩ := getI (cto N n ins k).1 (show (x.1 / 2).toNat < (cto N n ins k).1.length by omega)
        obtain ⟨zb, hzb⟩ := getI (cto N n ins k).1 (show (x.2 / 2).toNat < (cto N n ins k).1.length by omega)
        have ba : 0 ≤ za ∧ za ≤ 9223372036854775806 := by have := i2 za (List.mem_of_getElem? hza); unfold hasL at this; omega
        have bb : 0 ≤ zb ∧ zb ≤ 9223372036854775806 := by have := i2 zb (List.mem_of_getElem? hzb); unfold hasL at this; omega
        have hv := andV_has (hasL_litI i2 (x := x.1) (by omega)) (hasL_litI i2 (x := x.2) (by omega))
        have q0 : ¬ (andV (cto N n ins k).2.2 (litI (cto N n ins k).1 x.1) (litI (cto N n ins k).1 x.2)).1 < 0 := by have := hv.1; omega
        have e1 : (cto N n ins (k + 1)).1 = (cto N n ins k).1 ++ [(andV (cto N n ins k).2.2 (litI (cto N n ins k).1 x.1) (litI (cto N n ins k).1 x.2)).1] := by rw [hs, cstep, if_pos hin]
        have e2 : (cto N n ins (k + 1)).2.1 = (cto N n ins k).2.1 := by rw [hs, cstep, if_pos hin]
        have e3 : (cto N n ins (k + 1)).2.2 = (andV (cto N n ins k).2.2 (litI (cto N n ins k).1 x.1) (litI (cto N n ins k).1 x.2)).2 := by rw [hs, cstep, if_pos hin]
        repeat' (first
          | (apply W.condKT; exact rfl; (focus (first | exact dec_true (by omega) | exact dec_false q0; done)))
          | (apply WL.alloc tOk; (iterate 3 exact rfl); intro gb w' hb hge hx; replace hS := Sep.newCell (Sep.ext hS (by (exact extA))) hx hb hge (by (first | exact Nat.le_refl _ | exact Below.size (by (exact extA)))); (try simp only [List.set_cons_zero, List.set_cons_succ] at hS); (try have hR0 := hS.row (i := 0) rfl); (try have hR1 := hS.row (i := 1) rfl); (try have hR2 := hS.row (i := 2) rfl); (try have hR3 := hS.row (i := 3) rfl); (try have hR4 := hS.row (i := 4) rfl); (try have hC0 := hS.cell (i := 0) rfl); (try have hD0 := (cells_heap hC0).1); (try have hE0 := (cells_heap hC0).2.1); (try have hF0 := (cells_heap hC0).2.2.1); (try have hG0 := (cells_heap hC0).2.2.2.1); (try have hC1 := hS.cell (i := 1) rfl); (try have hD1 := (cells_heap hC1).1); (try have hE1 := (cells_heap hC1).2.1); (try have hF1 := (cells_heap hC1).2.2.1); (try have hG1 := (cells_heap hC1).2.2.2.1); (try have hC2 := hS.cell (i := 2) rfl); (try have hD2 := (cells_heap hC2).1); (try have hE2 := (cells_heap hC2).2.1); (try have hF2 := (cells_heap hC2).2.2.1); (try have hG2 := (cells_heap hC2).2.2.2.1); (try have hC3 := hS.cell (i := 3) rfl); (try have hD3 := (cells_heap hC3).1); (try have hE3 := (cells_heap hC3).2.1); (try have hF3 := (cells_heap hC3).2.2.1); (try have hG3 := (cells_heap hC3).2.2.2.1); (try have hC4 := hS.cell (i := 4) rfl); (try have hD4 := (cells_heap hC4).1); (try have hE4 := (cells_heap hC4).2.1); (try have hF4 := (cells_heap hC4).2.2.1); (try have hG4 := (cells_heap hC4).2.2.2.1); (try have hM0 := hS.map (i := 0) rfl); (try have hM1 := hS.map (i := 1) rfl); (try have hM2 := hS.map (i := 2) rfl); (try have hM3 := hS.map (i := 3) rfl); (try have hM4 := hS.map (i := 4) rfl))
          | (apply WL.storeB (w0 := w0) tOk; (iterate 4 exact rfl); assumption; (exact extA); (iterate 3 exact rfl); (exact extA); (first | assumption | omega | (focus (apply Nat.le_trans; rotate_left; assumption; exact Below.size (by (exact extA)); done))); intro w' hb hc hX' hU; have hcc := hc; obtain ⟨h1, h2, _⟩ := hc; (first | replace hS := Sep.updCell (i := 0) rfl hU hb hS (by (exact extA)) (by (first | exact Nat.le_refl _ | exact Below.size (by (exact extA)))) | replace hS := Sep.updCell (i := 1) rfl hU hb hS (by (exact extA)) (by (first | exact Nat.le_refl _ | exact Below.size (by (exact extA)))) | replace hS := Sep.updCell (i := 2) rfl hU hb hS (by (exact extA)) (by (first | exact Nat.le_refl _ | exact Below.size (by (exact extA)))) | replace hS := Sep.updCell (i := 3) rfl hU hb hS (by (exact extA)) (by (first | exact Nat.le_refl _ | exact Below.size (by (exact extA))))); (try simp only [List.set_cons_zero, List.set_cons_succ] at hS); (try have hR0 := hS.row (i := 0) rfl); (try have hR1 := hS.row (i := 1) rfl); (try have hR2 := hS.row (i := 2) rfl); (try have hR3 := hS.row (i := 3) rfl); (try have hR4 := hS.row (i := 4) rfl); (try have hC0 := hS.cell (i := 0) rfl); (try have hD0 := (cells_heap hC0).1); (try have hE0 := (cells_heap hC0).2.1); (try have hF0 := (cells_heap hC0).2.2.1); (try have hG0 := (cells_heap hC0).2.2.2.1); (try have hC1 := hS.cell (i := 1) rfl); (try have hD1 := (cells_heap hC1).1); (try have hE1 := (cells_heap hC1).2.1); (try have hF1 := (cells_heap hC1).2.2.1); (try have hG1 := (cells_heap hC1).2.2.2.1); (try have hC2 := hS.cell (i := 2) rfl); (try have hD2 := (cells_heap hC2).1); (try have hE2 := (cells_heap hC2).2.1); (try have hF2 := (cells_heap hC2).2.2.1); (try have hG2 := (cells_heap hC2).2.2.2.1); (try have hC3 := hS.cell (i := 3) rfl); (try have hD3 := (cells_heap hC3).1); (try have hE3 := (cells_heap hC3).2.1); (try have hF3 := (cells_heap hC3).2.2.1); (try have hG3 := (cells_heap hC3).2.2.2.1); (try have hC4 := hS.cell (i := 4) rfl); (try have hD4 := (cells_heap hC4).1); (try have hE4 := (cells_heap hC4).2.1); (try have hF4 := (cells_heap hC4).2.2.1); (try have hG4 := (cells_heap hC4).2.2.2.1); (try have hM0 := hS.map (i := 0) rfl); (try have hM1 := hS.map (i := 1) rfl); (try have hM2 := hS.map (i := 2) rfl); (try have hM3 := hS.map (i := 3) rfl); (try have hM4 := hS.map (i := 4) rfl))
          | (apply W.regionQS 9 tMix; kernel_rfl; exact rfl; kernel_rfl; kernel_rfl)
          | ((show QL _ _ _ _ (⟨_, .call ⟨.value (.tmp _), _, _⟩, _, _, _, _⟩ :: _) _ _); apply QL.callS; (iterate 4 exact rfl); exact aig_Copy1 g7 lc la (cto N n ins k).1 x.1 za _ (Ext.heap (by (exact extA)) (hS.cell (i := 4) rfl)) (Row.ext (Own.row encI_ok (hS.row (i := 5) rfl)) (by (exact extA))) hza (by omega) ba)
          | ((show QL _ _ _ _ (⟨_, .call ⟨.value (.tmp _), _, _⟩, _, _, _, _⟩ :: _) _ _); apply QL.callS; (iterate 4 exact rfl); exact aig_Copy1 g7 lc la (cto N n ins k).1 x.2 zb _ (Ext.heap (by (exact extA)) (hS.cell (i := 4) rfl)) (Row.ext (Own.row encI_ok (hS.row (i := 5) rfl)) (by (exact extA))) hzb (by omega) bb)
          | (show WL _ _ _ _ _ _ _; first | apply WL.nil | (refine WL.au (k := ?_)) | (apply WL.index tOk; (iterate 8 exact rfl); assumption; (exact extA); exact rfl; omega; assumption; intro b off h; have hcc := h; first | (obtain ⟨h1, h2, h3, h4, h5, h6, _⟩ := h) | (obtain ⟨h1, h2, h3, _⟩ := h) | (obtain ⟨h1, h2, _⟩ := h) | (obtain ⟨h1, _⟩ := h)))
          | (show QL _ _ _ _ _ _ _; first | apply QL.nil | (refine QL.au (k := ?_)))
          | (show Z _ _ _ _ _; first | apply Z.tail | apply Z.then_normal)
          | (show W _ _ _ _ _ _; first | apply W.seq | apply W.region | apply W.block | apply W.skip)
          | fail)
        repeat' (first
          | (((show WL _ _ _ (⟨_, .call ⟨.value (.func 113), _, _⟩, _, _, _, _⟩ :: _) _ _ _); have hS8 : Lt.Sep w0.heap.size _ (stN w0.heap.size gs a2 cap2 r (cto N n ins k).2.2 ++ (pcell g7 #[.slice la (cto N n ins k).1.length lc] 22 :: prow 1 encI 3 w0.heap.size la lc (cto N n ins k).1 :: rest)) := Sep.tail hS; apply WL.call; (iterate 4 exact rfl); exact aig_And gs r _ _ (cto N n ins k).2.2 _ _ (pcell g7 #[.slice la (cto N n ins k).1.length lc] 22 :: prow 1 encI 3 w0.heap.size la lc (cto N n ins k).1 :: rest) _ w0 (by (exact extA)) hS8 (by omega); rintro v' w8 ⟨hX8, a8, cap8, rfl, hS⟩; (try simp only [List.set_cons_zero, List.set_cons_succ] at hS); (try have hR0 := hS.row (i := 0) rfl); (try have hR1 := hS.row (i := 1) rfl); (try have hR2 := hS.row (i := 2) rfl); (try have hR3 := hS.row (i := 3) rfl); (try have hR4 := hS.row (i := 4) rfl); (try have hC0 := hS.cell (i := 0) rfl); (try have hD0 := (cells_heap hC0).1); (try have hE0 := (cells_heap hC0).2.1); (try have hF0 := (cells_heap hC0).2.2.1); (try have hG0 := (cells_heap hC0).2.2.2.1); (try have hC1 := hS.cell (i := 1) rfl); (try have hD1 := (cells_heap hC1).1); (try have hE1 := (cells_heap hC1).2.1); (try have hF1 := (cells_heap hC1).2.2.1); (try have hG1 := (cells_heap hC1).2.2.2.1); (try have hC2 := hS.cell (i := 2) rfl); (try have hD2 := (cells_heap hC2).1); (try have hE2 := (cells_heap hC2).2.1); (try have hF2 := (cells_heap hC2).2.2.1); (try have hG2 := (cells_heap hC2).2.2.2.1); (try have hC3 := hS.cell (i := 3) rfl); (try have hD3 := (cells_heap hC3).1); (try have hE3 := (cells_heap hC3).2.1); (try have hF3 := (cells_heap hC3).2.2.1); (try have hG3 := (cells_heap hC3).2.2.2.1); (try have hC4 := hS.cell (i := 4) rfl); (try have hD4 := (cells_heap hC4).1); (try have hE4 := (cells_heap hC4).2.1); (try have hF4 := (cells_heap hC4).2.2.1); (try have hG4 := (cells_heap hC4).2.2.2.1); (try have hM0 := hS.map (i := 0) rfl); (try have hM1 := hS.map (i := 1) rfl); (try have hM2 := hS.map (i := 2) rfl); (try have hM3 := hS.map (i := 3) rfl); (try have hM4 := hS.map (i := 4) rfl)))
          | (apply W.condKF; exact rfl; (focus (exact dec_false q0; done)))
          | (apply WL.lit tOk; (iterate 6 exact rfl); (first | exact rfl | kernel_rfl | (simp [Instr.fill, catCells]; done)); exact rfl; intro gb w' hb hge hc hx)
          | (apply WL.append1 (z := ((andV (cto N n ins k).2.2 (litI (cto N n ins k).1 x.1) (litI (cto N n ins k).1 x.2)).1)) tOk encI_ok; (iterate 10 exact rfl); assumption; (exact extA); (first | exact rfl | (focus (simp only [List.length_set]; done)) | (focus (simp; done)) | (focus (simp [*]; done)) | omega | (focus (simp only [List.length_set]; omega))); (first | assumption | (refine Cells.ext ?_ (by assumption); exact extA)); exact rfl; exact rfl; (exact extA); (first | omega | (simp; omega) | (simp at *; omega)); intro a' cap' w' hO hX' hU hF; (first | replace hS := Sep.updRow (i := 0) rfl hU hO hF hS (by (exact extA)) (by (first | exact Nat.le_refl _ | exact Below.size (by (exact extA)))) | replace hS := Sep.updRow (i := 1) rfl hU hO hF hS (by (exact extA)) (by (first | exact Nat.le_refl _ | exact Below.size (by (exact extA)))) | replace hS := Sep.updRow (i := 2) rfl hU hO hF hS (by (exact extA)) (by (first | exact Nat.le_refl _ | exact Below.size (by (exact extA)))) | replace hS := Sep.updRow (i := 3) rfl hU hO hF hS (by (exact extA)) (by (first | exact Nat.le_refl _ | exact Below.size (by (exact extA)))) | replace hS := Sep.updRow (i := 4) rfl hU hO hF hS (by (exact extA)) (by (first | exact Nat.le_refl _ | exact Below.size (by (exact extA)))) | replace hS := Sep.updRow (i := 5) rfl hU hO hF hS (by (exact extA)) (by (first | exact Nat.le_refl _ | exact Below.size (by (exact extA))))); (try simp only [List.set_cons_zero, List.set_cons_succ] at hS); (try have hR0 := hS.row (i := 0) rfl); (try have hR1 := hS.row (i := 1) rfl); (try have hR2 := hS.row (i := 2) rfl); (try have hR3 := hS.row (i := 3) rfl); (try have hR4 := hS.row (i := 4) rfl); (try have hC0 := hS.cell (i := 0) rfl); (try have hD0 := (cells_heap hC0).1); (try have hE0 := (cells_heap hC0).2.1); (try have hF0 := (cells_heap hC0).2.2.1); (try have hG0 := (cells_heap hC0).2.2.2.1); (try have hC1 := hS.cell (i := 1) rfl); (try have hD1 := (cells_heap hC1).1); (try have hE1 := (cells_heap hC1).2.1); (try have hF1 := (cells_heap hC1).2.2.1); (try have hG1 := (cells_heap hC1).2.2.2.1); (try have hC2 := hS.cell (i := 2) rfl); (try have hD2 := (cells_heap hC2).1); (try have hE2 := (cells_heap hC2).2.1); (try have hF2 := (cells_heap hC2).2.2.1); (try have hG2 := (cells_heap hC2).2.2.2.1); (try have hC3 := hS.cell (i := 3) rfl); (try have hD3 := (cells_heap hC3).1); (try have hE3 := (cells_heap hC3).2.1); (try have hF3 := (cells_heap hC3).2.2.1); (try have hG3 := (cells_heap hC3).2.2.2.1); (try have hC4 := hS.cell (i := 4) rfl); (try have hD4 := (cells_heap hC4).1); (try have hE4 := (cells_heap hC4).2.1); (try have hF4 := (cells_heap hC4).2.2.1); (try have hG4 := (cells_heap hC4).2.2.2.1); (try have hM0 := hS.map (i := 0) rfl); (try have hM1 := hS.map (i := 1) rfl); (try have hM2 := hS.map (i := 2) rfl); (try have hM3 := hS.map (i := 3) rfl); (try have hM4 := hS.map (i := 4) rfl))
          | (apply WL.storeB (w0 := w0) tOk; (iterate 4 exact rfl); assumption; (exact extA); (iterate 3 exact rfl); (exact extA); (first | assumption | omega | (focus (apply Nat.le_trans; rotate_left; assumption; exact Below.size (by (exact extA)); done))); intro w' hb hc hX' hU; have hcc := hc; obtain ⟨h1, h2, _⟩ := hc; (first | replace hS := Sep.updCell (i := 0) rfl hU hb hS (by (exact extA)) (by (first | exact Nat.le_refl _ | exact Below.size (by (exact extA)))) | replace hS := Sep.updCell (i := 1) rfl hU hb hS (by (exact extA)) (by (first | exact Nat.le_refl _ | exact Below.size (by (exact extA)))) | replace hS := Sep.updCell (i := 2) rfl hU hb hS (by (exact extA)) (by (first | exact Nat.le_refl _ | exact Below.size (by (exact extA)))) | replace hS := Sep.updCell (i := 3) rfl hU hb hS (by (exact extA)) (by (first | exact Nat.le_refl _ | exact Below.size (by (exact extA))))); (try simp only [List.set_cons_zero, List.set_cons_succ] at hS); (try have hR0 := hS.row (i := 0) rfl); (try have hR1 := hS.row (i := 1) rfl); (try have hR2 := hS.row (i := 2) rfl); (try have hR3 := hS.row (i := 3) rfl); (try have hR4 := hS.row (i := 4) rfl); (try have hC0 := hS.cell (i := 0) rfl); (try have hD0 := (cells_heap hC0).1); (try have hE0 := (cells_heap hC0).2.1); (try have hF0 := (cells_heap hC0).2.2.1); (try have hG0 := (cells_heap hC0).2.2.2.1); (try have hC1 := hS.cell (i := 1) rfl); (try have hD1 := (cells_heap hC1).1); (try have hE1 := (cells_heap hC1).2.1); (try have hF1 := (cells_heap hC1).2.2.1); (try have hG1 := (cells_heap hC1).2.2.2.1); (try have hC2 := hS.cell (i := 2) rfl); (try have hD2 := (cells_heap hC2).1); (try have hE2 := (cells_heap hC2).2.1); (try have hF2 := (cells_heap hC2).2.2.1); (try have hG2 := (cells_heap hC2).2.2.2.1); (try have hC3 := hS.cell (i := 3) rfl); (try have hD3 := (cells_heap hC3).1); (try have hE3 := (cells_heap hC3).2.1); (try have hF3 := (cells_heap hC3).2.2.1); (try have hG3 := (cells_heap hC3).2.2.2.1); (try have hC4 := hS.cell (i := 4) rfl); (try have hD4 := (cells_heap hC4).1); (try have hE4 := (cells_heap hC4).2.1); (try have hF4 := (cells_heap hC4).2.2.1); (try have hG4 := (cells_heap hC4).2.2.2.1); (try have hM0 := hS.map (i := 0) rfl); (try have hM1 := hS.map (i := 1) rfl); (try have hM2 := hS.map (i := 2) rfl); (try have hM3 := hS.map (i := 3) rfl); (try have hM4 := hS.map (i := 4) rfl))
          | (show WL _ _ _ _ _ _ _; first | apply WL.nil | (refine WL.au (k := ?_)))
          | (show Z _ _ _ _ _; first | apply Z.then_normal | apply Z.block_normal)
          | (show W _ _ _ _ _ _; first | apply W.seq | apply W.region | apply W.skip)
          | fail)
        exact Z.againO2 a' cap' bi bd ⟨by omega, by assumption, ⟨a8, cap8, by rw [e3, e1]; exact hS⟩, by rw [e2]; exact hib, by rw [e2]; exact hbd⟩ (by repeat' first | exact trivial | (refine And.intro ?_ ?_) | exact rfl | (rw [e1]; exact rfl) | (rw [e2]; exact rfl))
      · by_cases hki : (cto N n ins k).2.1 < ins.length
        · obtain ⟨z, hz⟩ := getI ins hki
          have hz' : (ins.drop (cto N n ins k).2.1)[0]? = some z := by rw [List.getElem?_drop]; exact hz
          have hdl : 0 < (ins.drop (cto N n ins k).2.1).length := by rw [List.length_drop]; omega
          have hzh := hh z (List.mem_of_getElem? hz)
          have q0 : ¬ z < 0 := by have := hzh.1; omega
          have e1 : (cto N n ins (k + 1)).1 = (cto N n ins k).1 ++ [z] := by rw [hs, cstep, if_neg hin, if_pos hki, getD_of hz]
          have e2 : (cto N n ins (k + 1)).2.1 = (cto N n ins k).2.1 + 1 := by rw [hs, cstep, if_neg hin, if_pos hki]
          have e3 : (cto N n ins (k + 1)).2.2 = (cto N n ins k).2.2 := by rw [hs, cstep, if_neg hin, if_pos hki]
          have e4 : (ins.drop (cto N n ins k).2.1).drop 1 = ins.drop (cto N n ins (k + 1)).2.1 := by rw [e2, List.drop_drop]
          have e7 : (ins.drop (cto N n ins (k + 1)).2.1).length = (ins.drop (cto N n ins k).2.1).length - Int.toNat 1 := by rw [← e4, List.length_drop]; rfl
          repeat' (first
            | (apply W.condKT; exact rfl; (focus (first | exact dec_true (by omega) | exact dec_false (by omega) | exact dec_false q0; done)))
            | (apply W.condKF; exact rfl; (focus (first | exact dec_true (by omega) | exact dec_false (by omega) | exact dec_false q0; done)))
            | (apply WL.alloc tOk; (iterate 3 exact rfl); intro gb w' hb hge hx; replace hS := Sep.newCell (Sep.ext hS (by (exact extA))) hx hb hge (by (first | exact Nat.le_refl _ | exact Below.size (by (exact extA)))); (try simp only [List.set_cons_zero, List.set_cons_succ] at hS); (try have hR0 := hS.row (i := 0) rfl); (try have hR1 := hS.row (i := 1) rfl); (try have hR2 := hS.row (i := 2) rfl); (try have hR3 := hS.row (i := 3) rfl); (try have hR4 := hS.row (i := 4) rfl); (try have hC0 := hS.cell (i := 0) rfl); (try have hD0 := (cells_heap hC0).1); (try have hE0 := (cells_heap hC0).2.1); (try have hF0 := (cells_heap hC0).2.2.1); (try have hG0 := (cells_heap hC0).2.2.2.1); (try have hC1 := hS.cell (i := 1) rfl); (try have hD1 := (cells_heap hC1).1); (try have hE1 := (cells_heap hC1).2.1); (try have hF1 := (cells_heap hC1).2.2.1); (try have hG1 := (cells_heap hC1).2.2.2.1); (try have hC2 := hS.cell (i := 2) rfl); (try have hD2 := (cells_heap hC2).1); (try have hE2 := (cells_heap hC2).2.1); (try have hF2 := (cells_heap hC2).2.2.1); (try have hG2 := (cells_heap hC2).2.2.2.1); (try have hC3 := hS.cell (i := 3) rfl); (try have hD3 := (cells_heap hC3).1); (try have hE3 := (cells_heap hC3).2.1); (try have hF3 := (cells_heap hC3).2.2.1); (try have hG3 := (cells_heap hC3).2.2.2.1); (try have hC4 := hS.cell (i := 4) rfl); (try have hD4 := (cells_heap hC4).1); (try have hE4 := (cells_heap hC4).2.1); (try have hF4 := (cells_heap hC4).2.2.1); (try have hG4 := (cells_heap hC4).2.2.2.1); (try have hM0 := hS.map (i := 0) rfl); (try have hM1 := hS.map (i := 1) rfl); (try have hM2 := hS.map (i := 2) rfl); (try have hM3 := hS.map (i := 3) rfl); (try have hM4 := hS.map (i := 4) rfl))
            | (apply WL.storeB (w0 := w9) tOk; (iterate 4 exact rfl); assumption; (exact extA); (iterate 3 exact rfl); (exact extA); (first | assumption | omega | (focus (apply Nat.le_trans; rotate_left; assumption; exact Below.size (by (exact extA)); done))); intro w' hb hc hX' hU; have hcc := hc; obtain ⟨h1, h2, _⟩ := hc; (first | replace hS := Sep.updCell (i := 0) rfl hU hb hS (by (exact extA)) (by (first | exact Nat.le_refl _ | exact Below.size (by (exact extA)))) | replace hS := Sep.updCell (i := 1) rfl hU hb hS (by (exact extA)) (by (first | exact Nat.le_refl _ | exact Below.size (by (exact extA)))) | replace hS := Sep.updCell (i := 2) rfl hU hb hS (by (exact extA)) (by (first | exact Nat.le_refl _ | exact Below.size (by (exact extA)))) | replace hS := Sep.updCell (i := 3) rfl hU hb hS (by (exact extA)) (by (first | exact Nat.le_refl _ | exact Below.size (by (exact extA))))); (try simp only [List.set_cons_zero, List.set_cons_succ] at hS); (try have hR0 := hS.row (i := 0) rfl); (try have hR1 := hS.row (i := 1) rfl); (try have hR2 := hS.row (i := 2) rfl); (try have hR3 := hS.row (i := 3) rfl); (try have hR4 := hS.row (i := 4) rfl); (try have hC0 := hS.cell (i := 0) rfl); (try have hD0 := (cells_heap hC0).1); (try have hE0 := (cells_heap hC0).2.1); (try have hF0 := (cells_heap hC0).2.2.1); (try have hG0 := (cells_heap hC0).2.2.2.1); (try have hC1 := hS.cell (i := 1) rfl); (try have hD1 := (cells_heap hC1).1); (try have hE1 := (cells_heap hC1).2.1); (try have hF1 := (cells_heap hC1).2.2.1); (try have hG1 := (cells_heap hC1).2.2.2.1); (try have hC2 := hS.cell (i := 2) rfl); (try have hD2 := (cells_heap hC2).1); (try have hE2 := (cells_heap hC2).2.1); (try have hF2 := (cells_heap hC2).2.2.1); (try have hG2 := (cells_heap hC2).2.2.2.1); (try have hC3 := hS.cell (i := 3) rfl); (try have hD3 := (cells_heap hC3).1); (try have hE3 := (cells_heap hC3).2.1); (try have hF3 := (cells_heap hC3).2.2.1); (try have hG3 := (cells_heap hC3).2.2.2.1); (try have hC4 := hS.cell (i := 4) rfl); (try have hD4 := (cells_heap hC4).1); (try have hE4 := (cells_heap hC4).2.1); (try have hF4 := (cells_heap hC4).2.2.1); (try have hG4 := (cells_heap hC4).2.2.2.1); (try have hM0 := hS.map (i := 0) rfl); (try have hM1 := hS.map (i := 1) rfl); (try have hM2 := hS.map (i := 2) rfl); (try have hM3 := hS.map (i := 3) rfl); (try have hM4 := hS.map (i := 4) rfl))
            | (show W _ _ (.region 13 _ _) _ _ _; apply W.regionGX (.fl true 0 (.fl true 1 (.fl true 3 (.fl true 4 (.fl false 2 (.fl true 5 (.fl true 6 .done))))))) [] tMix; kernel_rfl)
            | (apply FL.sliceL0 tOk; (iterate 8 exact rfl); omega)
            | (apply WL.lit tOk; (iterate 6 exact rfl); (first | exact rfl | kernel_rfl | (simp [Instr.fill, catCells]; done)); exact rfl; intro gb w' hb hge hc hx)
            | (show SX _ _ _ _ _ _ _ _ _; first | (apply SX.done; intro w' hx) | (apply SX.fl0; exact rfl) | (apply SX.fl1; exact rfl; (exact extA)))
            | (show FL _ _ _ _ _ _ _ _; first | apply FL.nilX | (apply FL.loadE tOk; (iterate 5 exact rfl); (first | assumption | (focus (apply Ext.cell; rotate_left; assumption; exact extA; done)))) | (apply FL.indexE tOk; (iterate 8 exact rfl); assumption; exact rfl; omega; assumption; intro b off h; have hcc := h; first | (obtain ⟨h1, h2, h3, h4, h5, h6, _⟩ := h) | (obtain ⟨h1, h2, h3, _⟩ := h) | (obtain ⟨h1, h2, _⟩ := h) | (obtain ⟨h1, _⟩ := h)))
            | (show FL _ _ _ _ _ _ _ _; (refine FL.au (k := ?_)))
            | (show WL _ _ _ _ _ _ _; first | apply WL.nil | (refine WL.au (k := ?_)) | (apply WL.index tOk; (iterate 8 exact rfl); assumption; (exact extA); exact rfl; omega; assumption; intro b off h; have hcc := h; first | (obtain ⟨h1, h2, h3, h4, h5, h6, _⟩ := h) | (obtain ⟨h1, h2, h3, _⟩ := h) | (obtain ⟨h1, h2, _⟩ := h) | (obtain ⟨h1, _⟩ := h)))
            | (show Z _ _ _ _ _; first | apply Z.then_normal | apply Z.block_normal)
            | (show W _ _ _ _ _ _; first | apply W.seq | apply W.region | apply W.block | apply W.skip)
            | fail)
          replace hS := Sep.tail hS
          (try simp only [List.set_cons_zero, List.set_cons_succ] at hS); (try have hR0 := hS.row (i := 0) rfl); (try have hR1 := hS.row (i := 1) rfl); (try have hR2 := hS.row (i := 2) rfl); (try have hR3 := hS.row (i := 3) rfl); (try have hR4 := hS.row (i := 4) rfl); (try have hC0 := hS.cell (i := 0) rfl); (try have hD0 := (cells_heap hC0).1); (try have hE0 := (cells_heap hC0).2.1); (try have hF0 := (cells_heap hC0).2.2.1); (try have hG0 := (cells_heap hC0).2.2.2.1); (try have hC1 := hS.cell (i := 1) rfl); (try have hD1 := (cells_heap hC1).1); (try have hE1 := (cells_heap hC1).2.1); (try have hF1 := (cells_heap hC1).2.2.1); (try have hG1 := (cells_heap hC1).2.2.2.1); (try have hC2 := hS.cell (i := 2) rfl); (try have hD2 := (cells_heap hC2).1); (try have hE2 := (cells_heap hC2).2.1); (try have hF2 := (cells_heap hC2).2.2.1); (try have hG2 := (cells_heap hC2).2.2.2.1); (try have hC3 := hS.cell (i := 3) rfl); (try have hD3 := (cells_heap hC3).1); (try have hE3 := (cells_heap hC3).2.1); (try have hF3 := (cells_heap hC3).2.2.1); (try have hG3 := (cells_heap hC3).2.2.2.1); (try have hC4 := hS.cell (i := 4) rfl); (try have hD4 := (cells_heap hC4).1); (try have hE4 := (cells_heap hC4).2.1); (try have hF4 := (cells_heap hC4).2.2.1); (try have hG4 := (cells_heap hC4).2.2.2.1); (try have hM0 := hS.map (i := 0) rfl); (try have hM1 := hS.map (i := 1) rfl); (try have hM2 := hS.map (i := 2) rfl); (try have hM3 := hS.map (i := 3) rfl); (try have hM4 := hS.map (i := 4) rfl)
          have hRd : Keeps w0 gs r rest (fun w' => Row 1 encI w' (subA bi bd 1 1) (ins.drop (cto N n ins (k + 1)).2.1)) := fun w' a' cap' N' h1 h2 => by rw [← e4]; exact Row.dropAt (hib w' a' cap' N' h1 h2) 1 bd hbd
          repeat' (first
            | (apply WL.append1 (z := (z)) tOk encI_ok; (iterate 10 exact rfl); assumption; (exact extA); (first | exact rfl | (focus (simp only [List.length_set]; done)) | (focus (simp; done)) | (focus (simp [*]; done)) | omega | (focus (simp only [List.length_set]; omega))); (first | assumption | (refine Cells.ext ?_ (by assumption); exact extA)); exact rfl; exact rfl; (exact extA); (first | omega | (simp; omega) | (simp at *; omega)); intro a' cap' w' hO hX' hU hF; (first | replace hS := Sep.updRow (i := 0) rfl hU hO hF hS (by (exact extA)) (by (first | exact Nat.le_refl _ | exact Below.size (by (exact extA)))) | replace hS := Sep.updRow (i := 1) rfl hU hO hF hS (by (exact extA)) (by (first | exact Nat.le_refl _ | exact Below.size (by (exact extA)))) | replace hS := Sep.updRow (i := 2) rfl hU hO hF hS (by (exact extA)) (by (first | exact Nat.le_refl _ | exact Below.size (by (exact extA)))) | replace hS := Sep.updRow (i := 3) rfl hU hO hF hS (by (exact extA)) (by (first | exact Nat.le_refl _ | exact Below.size (by (exact extA)))) | replace hS := Sep.updRow (i := 4) rfl hU hO hF hS (by (exact extA)) (by (first | exact Nat.le_refl _ | exact Below.size (by (exact extA)))) | replace hS := Sep.updRow (i := 5) rfl hU hO hF hS (by (exact extA)) (by (first | exact Nat.le_refl _ | exact Below.size (by (exact extA))))); (try simp only [List.set_cons_zero, List.set_cons_succ] at hS); (try have hR0 := hS.row (i := 0) rfl); (try have hR1 := hS.row (i := 1) rfl); (try have hR2 := hS.row (i := 2) rfl); (try have hR3 := hS.row (i := 3) rfl); (try have hR4 := hS.row (i := 4) rfl); (try have hC0 := hS.cell (i := 0) rfl); (try have hD0 := (cells_heap hC0).1); (try have hE0 := (cells_heap hC0).2.1); (try have hF0 := (cells_heap hC0).2.2.1); (try have hG0 := (cells_heap hC0).2.2.2.1); (try have hC1 := hS.cell (i := 1) rfl); (try have hD1 := (cells_heap hC1).1); (try have hE1 := (cells_heap hC1).2.1); (try have hF1 := (cells_heap hC1).2.2.1); (try have hG1 := (cells_heap hC1).2.2.2.1); (try have hC2 := hS.cell (i := 2) rfl); (try have hD2 := (cells_heap hC2).1); (try have hE2 := (cells_heap hC2).2.1); (try have hF2 := (cells_heap hC2).2.2.1); (try have hG2 := (cells_heap hC2).2.2.2.1); (try have hC3 := hS.cell (i := 3) rfl); (try have hD3 := (cells_heap hC3).1); (try have hE3 := (cells_heap hC3).2.1); (try have hF3 := (cells_heap hC3).2.2.1); (try have hG3 := (cells_heap hC3).2.2.2.1); (try have hC4 := hS.cell (i := 4) rfl); (try have hD4 := (cells_heap hC4).1); (try have hE4 := (cells_heap hC4).2.1); (try have hF4 := (cells_heap hC4).2.2.1); (try have hG4 := (cells_heap hC4).2.2.2.1); (try have hM0 := hS.map (i := 0) rfl); (try have hM1 := hS.map (i := 1) rfl); (try have hM2 := hS.map (i := 2) rfl); (try have hM3 := hS.map (i := 3) rfl); (try have hM4 := hS.map (i := 4) rfl))
            | (apply WL.storeB (w0 := w0) tOk; (iterate 4 exact rfl); assumption; (exact extA); (iterate 3 exact rfl); (exact extA); (first | assumption | omega | (focus (apply Nat.le_trans; rotate_left; assumption; exact Below.size (by (exact extA)); done))); intro w' hb hc hX' hU; have hcc := hc; obtain ⟨h1, h2, _⟩ := hc; (first | replace hS := Sep.updCell (i := 0) rfl hU hb hS (by (exact extA)) (by (first | exact Nat.le_refl _ | exact Below.size (by (exact extA)))) | replace hS := Sep.updCell (i := 1) rfl hU hb hS (by (exact extA)) (by (first | exact Nat.le_refl _ | exact Below.size (by (exact extA)))) | replace hS := Sep.updCell (i := 2) rfl hU hb hS (by (exact extA)) (by (first | exact Nat.le_refl _ | exact Below.size (by (exact extA)))) | replace hS := Sep.updCell (i := 3) rfl hU hb hS (by (exact extA)) (by (first | exact Nat.le_refl _ | exact Below.size (by (exact extA))))); (try simp only [List.set_cons_zero, List.set_cons_succ] at hS); (try have hR0 := hS.row (i := 0) rfl); (try have hR1 := hS.row (i := 1) rfl); (try have hR2 := hS.row (i := 2) rfl); (try have hR3 := hS.row (i := 3) rfl); (try have hR4 := hS.row (i := 4) rfl); (try have hC0 := hS.cell (i := 0) rfl); (try have hD0 := (cells_heap hC0).1); (try have hE0 := (cells_heap hC0).2.1); (try have hF0 := (cells_heap hC0).2.2.1); (try have hG0 := (cells_heap hC0).2.2.2.1); (try have hC1 := hS.cell (i := 1) rfl); (try have hD1 := (cells_heap hC1).1); (try have hE1 := (cells_heap hC1).2.1); (try have hF1 := (cells_heap hC1).2.2.1); (try have hG1 := (cells_heap hC1).2.2.2.1); (try have hC2 := hS.cell (i := 2) rfl); (try have hD2 := (cells_heap hC2).1); (try have hE2 := (cells_heap hC2).2.1); (try have hF2 := (cells_heap hC2).2.2.1); (try have hG2 := (cells_heap hC2).2.2.2.1); (try have hC3 := hS.cell (i := 3) rfl); (try have hD3 := (cells_heap hC3).1); (try have hE3 := (cells_heap hC3).2.1); (try have hF3 := (cells_heap hC3).2.2.1); (try have hG3 := (cells_heap hC3).2.2.2.1); (try have hC4 := hS.cell (i := 4) rfl); (try have hD4 := (cells_heap hC4).1); (try have hE4 := (cells_heap hC4).2.1); (try have hF4 := (cells_heap hC4).2.2.1); (try have hG4 := (cells_heap hC4).2.2.2.1); (try have hM0 := hS.map (i := 0) rfl); (try have hM1 := hS.map (i := 1) rfl); (try have hM2 := hS.map (i := 2) rfl); (try have hM3 := hS.map (i := 3) rfl); (try have hM4 := hS.map (i := 4) rfl))
            | (show WL _ _ _ _ _ _ _; first | apply WL.nil | (refine WL.au (k := ?_)))
            | (show Z _ _ _ _ _; first | apply Z.then_normal | apply Z.block_normal)
            | (show W _ _ _ _ _ _; apply W.region)
            | fail)
          exact Z.againO2 a' cap' (subA bi bd 1 1) (bd - 1) ⟨by omega, by assumption, ⟨a2, cap2, by rw [e3, e1]; exact hS⟩, hRd, by rw [e7]; show _ ≤ bd - 1; omega⟩ (by repeat' first | exact trivial | (refine And.intro ?_ ?_) | exact rfl | (rw [e1]; exact rfl) | (rw [e7]; exact rfl))
        · have hd0 : (ins.drop (cto N n ins k).2.1).length = 0 := by rw [List.length_drop]; omega
          have e1 : (cto N n ins (k + 1)).1 = (cto N n ins k).1 ++ [2 * (((cto N n ins k).2.2.length : Int) + 1)] := by rw [hs, cstep, if_neg hin, if_neg hki]
          have e2 : (cto N n ins (k + 1)).2.1 = (cto N n ins k).2.1 + 1 := by rw [hs, cstep, if_neg hin, if_neg hki]
          have e3 : (cto N n ins (k + 1)).2.2 = (cto N n ins k).2.2 ++ [(-1, 0)] := by rw [hs, cstep, if_neg hin, if_neg hki]
          have e4 : ins.drop (cto N n ins (k + 1)).2.1 = ins.drop (cto N n ins k).2.1 := by rw [e2, List.drop_eq_nil_of_le (by omega), List.drop_eq_nil_of_le (by omega)]
          repeat' (first
            | (apply W.condKT; exact rfl; (focus (first | exact dec_true (by omega) | exact dec_false (by omega); done)))
            | (apply W.condKF; exact rfl; (focus (first | exact dec_true (by omega) | exact dec_false (by omega); done)))
            | (apply WL.alloc tOk; (iterate 3 exact rfl); intro gb w' hb hge hx; replace hS := Sep.newCell (Sep.ext hS (by (exact extA))) hx hb hge (by (first | exact Nat.le_refl _ | exact Below.size (by (exact extA)))); (try simp only [List.set_cons_zero, List.set_cons_succ] at hS); (try have hR0 := hS.row (i := 0) rfl); (try have hR1 := hS.row (i := 1) rfl); (try have hR2 := hS.row (i := 2) rfl); (try have hR3 := hS.row (i := 3) rfl); (try have hR4 := hS.row (i := 4) rfl); (try have hC0 := hS.cell (i := 0) rfl); (try have hD0 := (cells_heap hC0).1); (try have hE0 := (cells_heap hC0).2.1); (try have hF0 := (cells_heap hC0).2.2.1); (try have hG0 := (cells_heap hC0).2.2.2.1); (try have hC1 := hS.cell (i := 1) rfl); (try have hD1 := (cells_heap hC1).1); (try have hE1 := (cells_heap hC1).2.1); (try have hF1 := (cells_heap hC1).2.2.1); (try have hG1 := (cells_heap hC1).2.2.2.1); (try have hC2 := hS.cell (i := 2) rfl); (try have hD2 := (cells_heap hC2).1); (try have hE2 := (cells_heap hC2).2.1); (try have hF2 := (cells_heap hC2).2.2.1); (try have hG2 := (cells_heap hC2).2.2.2.1); (try have hC3 := hS.cell (i := 3) rfl); (try have hD3 := (cells_heap hC3).1); (try have hE3 := (cells_heap hC3).2.1); (try have hF3 := (cells_heap hC3).2.2.1); (try have hG3 := (cells_heap hC3).2.2.2.1); (try have hC4 := hS.cell (i := 4) rfl); (try have hD4 := (cells_heap hC4).1); (try have hE4 := (cells_heap hC4).2.1); (try have hF4 := (cells_heap hC4).2.2.1); (try have hG4 := (cells_heap hC4).2.2.2.1); (try have hM0 := hS.map (i := 0) rfl); (try have hM1 := hS.map (i := 1) rfl); (try have hM2 := hS.map (i := 2) rfl); (try have hM3 := hS.map (i := 3) rfl); (try have hM4 := hS.map (i := 4) rfl))
            | (apply WL.storeB (w0 := w0) tOk; (iterate 4 exact rfl); assumption; (exact extA); (iterate 3 exact rfl); (exact extA); (first | assumption | omega | (focus (apply Nat.le_trans; rotate_left; assumption; exact Below.size (by (exact extA)); done))); intro w' hb hc hX' hU; have hcc := hc; obtain ⟨h1, h2, _⟩ := hc; (first | replace hS := Sep.updCell (i := 0) rfl hU hb hS (by (exact extA)) (by (first | exact Nat.le_refl _ | exact Below.size (by (exact extA)))) | replace hS := Sep.updCell (i := 1) rfl hU hb hS (by (exact extA)) (by (first | exact Nat.le_refl _ | exact Below.size (by (exact extA)))) | replace hS := Sep.updCell (i := 2) rfl hU hb hS (by (exact extA)) (by (first | exact Nat.le_refl _ | exact Below.size (by (exact extA)))) | replace hS := Sep.updCell (i := 3) rfl hU hb hS (by (exact extA)) (by (first | exact Nat.le_refl _ | exact Below.size (by (exact extA))))); (try simp only [List.set_cons_zero, List.set_cons_succ] at hS); (try have hR0 := hS.row (i := 0) rfl); (try have hR1 := hS.row (i := 1) rfl); (try have hR2 := hS.row (i := 2) rfl); (try have hR3 := hS.row (i := 3) rfl); (try have hR4 := hS.row (i := 4) rfl); (try have hC0 := hS.cell (i := 0) rfl); (try have hD0 := (cells_heap hC0).1); (try have hE0 := (cells_heap hC0).2.1); (try have hF0 := (cells_heap hC0).2.2.1); (try have hG0 := (cells_heap hC0).2.2.2.1); (try have hC1 := hS.cell (i := 1) rfl); (try have hD1 := (cells_heap hC1).1); (try have hE1 := (cells_heap hC1).2.1); (try have hF1 := (cells_heap hC1).2.2.1); (try have hG1 := (cells_heap hC1).2.2.2.1); (try have hC2 := hS.cell (i := 2) rfl); (try have hD2 := (cells_heap hC2).1); (try have hE2 := (cells_heap hC2).2.1); (try have hF2 := (cells_heap hC2).2.2.1); (try have hG2 := (cells_heap hC2).2.2.2.1); (try have hC3 := hS.cell (i := 3) rfl); (try have hD3 := (cells_heap hC3).1); (try have hE3 := (cells_heap hC3).2.1); (try have hF3 := (cells_heap hC3).2.2.1); (try have hG3 := (cells_heap hC3).2.2.2.1); (try have hC4 := hS.cell (i := 4) rfl); (try have hD4 := (cells_heap hC4).1); (try have hE4 := (cells_heap hC4).2.1); (try have hF4 := (cells_heap hC4).2.2.1); (try have hG4 := (cells_heap hC4).2.2.2.1); (try have hM0 := hS.map (i := 0) rfl); (try have hM1 := hS.map (i := 1) rfl); (try have hM2 := hS.map (i := 2) rfl); (try have hM3 := hS.map (i := 3) rfl); (try have hM4 := hS.map (i := 4) rfl))
            | (((show WL _ _ _ (⟨_, .call ⟨.value (.func 90), _, _⟩, _, _, _, _⟩ :: _) _ _ _); have hS8 : Lt.Sep w0.heap.size _ (stN w0.heap.size gs a2 cap2 r (cto N n ins k).2.2 ++ (pcell g7 #[.slice la (cto N n ins k).1.length lc] 22 :: prow 1 encI 3 w0.heap.size la lc (cto N n ins k).1 :: rest)) := Sep.tail hS; apply WL.call; (iterate 4 exact rfl); exact aig_InputV gs r _ _ (cto N n ins k).2.2 (pcell g7 #[.slice la (cto N n ins k).1.length lc] 22 :: prow 1 encI 3 w0.heap.size la lc (cto N n ins k).1 :: rest) _ w0 (by (exact extA)) hS8 (by omega); rintro v' w8 ⟨hX8, a8, cap8, rfl, hS⟩; (try simp only [List.set_cons_zero, List.set_cons_succ] at hS); (try have hR0 := hS.row (i := 0) rfl); (try have hR1 := hS.row (i := 1) rfl); (try have hR2 := hS.row (i := 2) rfl); (try have hR3 := hS.row (i := 3) rfl); (try have hR4 := hS.row (i := 4) rfl); (try have hC0 := hS.cell (i := 0) rfl); (try have hD0 := (cells_heap hC0).1); (try have hE0 := (cells_heap hC0).2.1); (try have hF0 := (cells_heap hC0).2.2.1); (try have hG0 := (cells_heap hC0).2.2.2.1); (try have hC1 := hS.cell (i := 1) rfl); (try have hD1 := (cells_heap hC1).1); (try have hE1 := (cells_heap hC1).2.1); (try have hF1 := (cells_heap hC1).2.2.1); (try have hG1 := (cells_heap hC1).2.2.2.1); (try have hC2 := hS.cell (i := 2) rfl); (try have hD2 := (cells_heap hC2).1); (try have hE2 := (cells_heap hC2).2.1); (try have hF2 := (cells_heap hC2).2.2.1); (try have hG2 := (cells_heap hC2).2.2.2.1); (try have hC3 := hS.cell (i := 3) rfl); (try have hD3 := (cells_heap hC3).1); (try have hE3 := (cells_heap hC3).2.1); (try have hF3 := (cells_heap hC3).2.2.1); (try have hG3 := (cells_heap hC3).2.2.2.1); (try have hC4 := hS.cell (i := 4) rfl); (try have hD4 := (cells_heap hC4).1); (try have hE4 := (cells_heap hC4).2.1); (try have hF4 := (cells_heap hC4).2.2.1); (try have hG4 := (cells_heap hC4).2.2.2.1); (try have hM0 := hS.map (i := 0) rfl); (try have hM1 := hS.map (i := 1) rfl); (try have hM2 := hS.map (i := 2) rfl); (try have hM3 := hS.map (i := 3) rfl); (try have hM4 := hS.map (i := 4) rfl)))
            | (apply WL.lit tOk; (iterate 6 exact rfl); (first | exact rfl | kernel_rfl | (simp [Instr.fill, catCells]; done)); exact rfl; intro gb w' hb hge hc hx)
            | (apply WL.append1 (z := (2 * (((cto N n ins k).2.2.length : Int) + 1))) tOk encI_ok; (iterate 10 exact rfl); assumption; (exact extA); (first | exact rfl | (focus (simp only [List.length_set]; done)) | (focus (simp; done)) | (focus (simp [*]; done)) | omega | (focus (simp only [List.length_set]; omega))); (first | assumption | (refine Cells.ext ?_ (by assumption); exact extA)); exact rfl; exact rfl; (exact extA); (first | omega | (simp; omega) | (simp at *; omega)); intro a' cap' w' hO hX' hU hF; (first | replace hS := Sep.updRow (i := 0) rfl hU hO hF hS (by (exact extA)) (by (first | exact Nat.le_refl _ | exact Below.size (by (exact extA)))) | replace hS := Sep.updRow (i := 1) rfl hU hO hF hS (by (exact extA)) (by (first | exact Nat.le_refl _ | exact Below.size (by (exact extA)))) | replace hS := Sep.updRow (i := 2) rfl hU hO hF hS (by (exact extA)) (by (first | exact Nat.le_refl _ | exact Below.size (by (exact extA)))) | replace hS := Sep.updRow (i := 3) rfl hU hO hF hS (by (exact extA)) (by (first | exact Nat.le_refl _ | exact Below.size (by (exact extA)))) | replace hS := Sep.updRow (i := 4) rfl hU hO hF hS (by (exact extA)) (by (first | exact Nat.le_refl _ | exact Below.size (by (exact extA)))) | replace hS := Sep.updRow (i := 5) rfl hU hO hF hS (by (exact extA)) (by (first | exact Nat.le_refl _ | exact Below.size (by (exact extA))))); (try simp only [List.set_cons_zero, List.set_cons_succ] at hS); (try have hR0 := hS.row (i := 0) rfl); (try have hR1 := hS.row (i := 1) rfl); (try have hR2 := hS.row (i := 2) rfl); (try have hR3 := hS.row (i := 3) rfl); (try have hR4 := hS.row (i := 4) rfl); (try have hC0 := hS.cell (i := 0) rfl); (try have hD0 := (cells_heap hC0).1); (try have hE0 := (cells_heap hC0).2.1); (try have hF0 := (cells_heap hC0).2.2.1); (try have hG0 := (cells_heap hC0).2.2.2.1); (try have hC1 := hS.cell (i := 1) rfl); (try have hD1 := (cells_heap hC1).1); (try have hE1 := (cells_heap hC1).2.1); (try have hF1 := (cells_heap hC1).2.2.1); (try have hG1 := (cells_heap hC1).2.2.2.1); (try have hC2 := hS.cell (i := 2) rfl); (try have hD2 := (cells_heap hC2).1); (try have hE2 := (cells_heap hC2).2.1); (try have hF2 := (cells_heap hC2).2.2.1); (try have hG2 := (cells_heap hC2).2.2.2.1); (try have hC3 := hS.cell (i := 3) rfl); (try have hD3 := (cells_heap hC3).1); (try have hE3 := (cells_heap hC3).2.1); (try have hF3 := (cells_heap hC3).2.2.1); (try have hG3 := (cells_heap hC3).2.2.2.1); (try have hC4 := hS.cell (i := 4) rfl); (try have hD4 := (cells_heap hC4).1); (try have hE4 := (cells_heap hC4).2.1); (try have hF4 := (cells_heap hC4).2.2.1); (try have hG4 := (cells_heap hC4).2.2.2.1); (try have hM0 := hS.map (i := 0) rfl); (try have hM1 := hS.map (i := 1) rfl); (try have hM2 := hS.map (i := 2) rfl); (try have hM3 := hS.map (i := 3) rfl); (try have hM4 := hS.map (i := 4) rfl))
            | (show WL _ _ _ _ _ _ _; first | apply WL.nil | (refine WL.au (k := ?_)) | (apply WL.index tOk; (iterate 8 exact rfl); assumption; (exact extA); exact rfl; omega; assumption; intro b off h; have hcc := h; first | (obtain ⟨h1, h2, h3, h4, h5, h6, _⟩ := h) | (obtain ⟨h1, h2, h3, _⟩ := h) | (obtain ⟨h1, h2, _⟩ := h) | (obtain ⟨h1, _⟩ := h)))
            | (show Z _ _ _ _ _; first | apply Z.then_normal | apply Z.block_normal)
            | (show W _ _ _ _ _ _; first | apply W.seq | apply W.region | apply W.block | apply W.skip)
            | fail)
          exact Z.againO2 a' cap' bi bd ⟨by omega, by assumption, ⟨a8, cap8, by rw [e3, e1]; exact hS⟩, by rw [e4]; exact hib, by rw [e4]; exact hbd⟩ (by repeat' first | exact trivial | (refine And.intro ?_ ?_) | exact rfl | (rw [e1]; exact rfl) | (rw [e4]; exact rfl))
    · obtain rfl : k = n.length := by omega
      have hl7 := (cells_heap (hS9.cell (i := 3) rfl)).1
      repeat' (first
        | (apply W.condKF; exact rfl; (focus (exact dec_false (by omega); done)))
        | (show WL _ _ _ _ _ _ _; first | apply WL.nil | (refine WL.au (k := ?_)))
        | (show Z _ _ _ _ _; first | apply Z.then_normal | apply Z.then_exit | apply Z.block_exit)
        | (show W _ _ _ _ _ _; first | apply W.seq | apply W.region | apply W.ret | apply W.exit)
        | fail)
      exact Z.body1 Try.results55 rfl fun m => ⟨hX9.at m, a2, cap2, la, lc, rfl, (Sep.drop3 hS9).ext ((Ext.refl _).at m)⟩
  · have e : copyV N n ins = ([], N) := by unfold copyV; rw [dec_false hh]; rfl
    rw [e]
    refine Spec.of _ Try.func55 rfl Try.ntmps55 (by kernel_rfl) rfl ?_
    repeat' (first
      | ((show WL _ _ _ (⟨_, .call ⟨.value (.func 111), _, _⟩, _, _, _, _⟩ :: _) _ _ _); apply WL.callP; (iterate 4 exact rfl); exact aig_has _ _ _ _ _ N ins _ _ hC0 RI (by omega); intro w' hx)
      | (apply W.condKT; exact rfl; (focus ((rw [dec_false hh]; rfl); done)))
      | (show WL _ _ _ _ _ _ _; first | apply WL.nil | (refine WL.au (k := ?_)))
      | (show Z _ _ _ _ _; first | apply Z.then_normal | apply Z.then_ret)
      | (show W _ _ _ _ _ _; first | apply W.seq | apply W.region | apply W.ret)
      | fail)
    have hS1 := hS.ext hx
    have hX1 := hX.trans hx
    have hS3 : Lt.Sep w0.heap.size w' (stN w0.heap.size gs a cap r N ++ (prow 1 encI 3 w0.heap.size none 0 [] :: rest)) := Sep.back31 (Sep.newRow hS1 (Ext.refl _) Own.nil (fun k hk => by cases hk) hX1.size)
    exact Z.body1 Try.results55 rfl fun m => ⟨hX1.at m, a, cap, none, 0, rfl, hS3.ext ((Ext.refl _).at m)⟩
end Go.Proofs.Yteidpnpbfagaeaa
namespace Go.Proofs.Yteidpnpbfagaeaa
open Go Go.Lt Go.RowKit
set_option linter.unusedVariables false
set_option linter.unusedSimpArgs false
set_option maxRecDepth 20000

/-- Nodes, and where variables are. -/
abbrev NA := List (Int × Int) × List Int
noncomputable def cput (s : NA) (l : Int) (x : Int × Int) : NA := (s.1 ++ [x], s.2.set (l / 2).toNat (2 * ((s.1.length : Int) + 1)))
noncomputable def cIn (s : NA) (ls : List Int) : NA := ls.foldl (fun s l => cput s l (-1, 0)) s
abbrev gAt (gs : List G3) (i : Nat) : G3 := gs.getD i (0, 0, 0)
noncomputable def cGate (gs : List G3) (s : NA) (i : Nat) : NA := cput s (gAt gs i).1 (litI s.2 (gAt gs i).2.1, litI s.2 (gAt gs i).2.2)
noncomputable def cGates (gs : List G3) (s : NA) (L : List Nat) : NA := L.foldl (cGate gs) s
def cAt0 (m : Int) : List Int := 0 :: List.replicate m.toNat (-1)
noncomputable def cNet (c : CirT) : NA := cGates c.gates (cIn ([], cAt0 c.max) (c.ins ++ c.lat.map (·.1))) (ordL c.gates)
theorem cIn_snoc (s : NA) (ls : List Int) (l : Int) : cIn s (ls ++ [l]) = cput (cIn s ls) l (-1, 0) := by unfold cIn; rw [List.foldl_append]; rfl
theorem cGates_snoc (gs : List G3) (s : NA) (L : List Nat) (i : Nat) : cGates gs s (L ++ [i]) = cGate gs (cGates gs s L) i := by unfold cGates; rw [List.foldl_append]; rfl

structure PutOk (s : NA) (q : List Int) (m : Nat) : Prop where
  len1 : s.1.length = q.length
  len2 : s.2.length = m + 1
  zero : s.2[0]? = some 0
  has : ∀ (i : Nat) (l : Int), q[i]? = some l → s.2[(l / 2).toNat]? = some (2 * ((i : Int) + 1))
  not : ∀ v : Nat, 1 ≤ v → v ≤ m → (∀ l ∈ q, (l / 2).toNat ≠ v) → s.2[v]? = some (-1)
theorem PutOk.start (m : Nat) : PutOk ([], cAt0 (m : Int)) [] m := by
  refine ⟨rfl, by simp [cAt0], rfl, fun i l h => by simp at h, fun v h1 h2 _ => ?_⟩
  show (0 :: List.replicate (m : Int).toNat (-1 : Int))[v]? = _
  obtain ⟨u, rfl⟩ : ∃ u, v = u + 1 := ⟨v - 1, by omega⟩
  rw [List.getElem?_cons_succ, List.getElem?_replicate, if_pos (by omega)]
theorem PutOk.push {s : NA} {q : List Int} {m : Nat} (h : PutOk s q m) {l : Int} (hl : 2 ≤ l ∧ l % 2 = 0 ∧ l ≤ 2 * (m : Int)) (hq : ∀ y ∈ q, 2 ≤ y ∧ y % 2 = 0) (hn : l ∉ q) (x : Int × Int) : PutOk (cput s l x) (q ++ [l]) m := by
  have hlen := h.len2
  have hs : ∀ y ∈ q, (l / 2).toNat ≠ (y / 2).toNat := fun y hy he => hn (by have := hq y hy; rw [show l = y by omega]; exact hy)
  refine ⟨by simp [cput, h.len1], by simp [cput, h.len2], ?_, fun i y hy => ?_, fun v h1 h2 h3 => ?_⟩
  · show (s.2.set _ _)[0]? = _
    rw [List.getElem?_set_ne (by omega)]; exact h.zero
  · show (s.2.set _ _)[(y / 2).toNat]? = _
    by_cases hi : i < q.length
    · rw [List.getElem?_append_left hi] at hy
      rw [List.getElem?_set_ne (hs y (List.mem_of_getElem? hy))]
      exact h.has i y hy
    · rw [List.getElem?_append_right (by omega)] at hy
      have h0 : i - q.length = 0 := by have := lt_of_get hy; simpa using this
      obtain rfl : i = q.length := by omega
      simp at hy; subst hy
      rw [List.getElem?_set_self (by omega), h.len1]
  · show (s.2.set _ _)[v]? = _
    rw [List.getElem?_set_ne (h3 l (by simp))]
    exact h.not v h1 h2 fun y hy => h3 y (by simp [hy])
theorem PutOk.ge {s : NA} {q : List Int} {m : Nat} (h : PutOk s q m) {l : Int} (hl : l / 2 = 0 ∨ ∃ y ∈ q, y / 2 = l / 2) : ∃ z, s.2[(l / 2).toNat]? = some z ∧ 0 ≤ z ∧ z % 2 = 0 ∧ z ≤ 2 * (s.1.length : Int) := by
  rcases hl with hl | ⟨y, hy, he⟩
  · exact ⟨0, by rw [hl]; exact h.zero, by decide, by decide, by omega⟩
  · obtain ⟨i, hi⟩ := List.mem_iff_getElem?.1 hy
    have h1 := h.has i y hi
    rw [he] at h1
    have h2 := lt_of_get hi
    have := h.len1
    exact ⟨_, h1, by omega, by omega, by omega⟩
theorem litI_some {l : List Int} {x z : Int} (hz : l[(x / 2).toNat]? = some z) : litI l x = xorI z (x % 2) := by unfold litI; rw [getD_of hz]
/-- All inputs and latches, put. -/
theorem cIn_ok {m : Nat} : ∀ (ls : List Int) (s : NA) (q : List Int), PutOk s q m → (∀ y ∈ q, 2 ≤ y ∧ y % 2 = 0) → (∀ l ∈ ls, 2 ≤ l ∧ l % 2 = 0 ∧ l ≤ 2 * (m : Int)) → (q ++ ls).Nodup → GoodNet s.1 → PutOk (cIn s ls) (q ++ ls) m ∧ GoodNet (cIn s ls).1
  | [], s, q, h, _, _, _, hg => by rw [List.append_nil]; exact ⟨h, hg⟩
  | l :: ls, s, q, h, hq, hl, hn, hg => by
    have hl1 := hl l (by simp)
    have hnl : l ∉ q := fun hm => by
      rw [List.nodup_append] at hn
      exact hn.2.2 l hm l (by simp) rfl
    have h1 := h.push hl1 hq hnl (-1, 0)
    have h2 := cIn_ok ls (cput s l (-1, 0)) (q ++ [l]) h1 (fun y hy => by
      rcases List.mem_append.1 hy with hy | hy
      · exact hq y hy
      · rw [List.mem_singleton.1 hy]; exact ⟨hl1.1, hl1.2.1⟩) (fun y hy => hl y (by simp [hy])) (by simpa using hn) (fun i x hx => ?_)
    · have e : q ++ [l] ++ ls = q ++ l :: ls := by simp
      rw [e] at h2
      exact h2
    · have hx' : (s.1 ++ [((-1, 0) : Int × Int)])[i]? = some x := hx
      by_cases hi : i < s.1.length
      · rw [List.getElem?_append_left hi] at hx'; exact hg i x hx'
      · rw [List.getElem?_append_right (by omega)] at hx'
        have h0 : i - s.1.length = 0 := by have := lt_of_get hx'; simpa using this
        rw [h0] at hx'
        simp at hx'; subst hx'
        unfold badNode; simp

/-- The literals in the order in which they are put. -/
noncomputable abbrev CirT.seq (c : CirT) : List Int := c.ins ++ c.lat.map (·.1) ++ (ordL c.gates).map (fun i => (gAt c.gates i).1)
abbrev CirT.inl (c : CirT) : List Int := c.ins ++ c.lat.map (·.1)
theorem gAt_of {gs : List G3} {i : Nat} {g : G3} (h : gs[i]? = some g) : gAt gs i = g := getD_of h
theorem GoodC'.gate {c : CirT} (h : GoodC' c) {i : Nat} {g : G3} (hg : c.gates[i]? = some g) : (2 ≤ g.1 ∧ g.1 % 2 = 0 ∧ g.1 ≤ 2 * c.max) ∧ (0 ≤ g.2.1 ∧ g.2.1 ≤ 2 * c.max + 1) ∧ (0 ≤ g.2.2 ∧ g.2.2 ≤ 2 * c.max + 1) := by
  have hm := List.mem_of_getElem? hg
  refine ⟨h.own _ (List.mem_append_right _ (List.mem_map.2 ⟨g, hm, rfl⟩)), h.used _ (List.mem_append_right _ (List.mem_flatMap.2 ⟨g, hm, by simp⟩)), h.used _ (List.mem_append_right _ (List.mem_flatMap.2 ⟨g, hm, by simp⟩))⟩
/-- What is used is put, if all gates are on which it may hang. -/
theorem used_put {c : CirT} (h : GoodC' c) {l : Int} (hl : l ∈ c.used) {T : List Nat} (hT : ∀ (j : Nat) (x : G3), c.gates[j]? = some x → j ∉ T → x.1 / 2 ≠ l / 2) : l / 2 = 0 ∨ ∃ y ∈ c.inl ++ T.map (fun i => (gAt c.gates i).1), y / 2 = l / 2 := by
  have h0 := h.used l hl
  rcases Int.lt_or_le 1 l with h1 | h1
  · right
    have h2 := h.has l hl h1
    rcases List.mem_append.1 h2 with h3 | h3
    · exact ⟨_, List.mem_append_left _ h3, by omega⟩
    · obtain ⟨g, hg, he⟩ := List.mem_map.1 h3
      obtain ⟨j, hj⟩ := List.mem_iff_getElem?.1 hg
      have hjT : j ∈ T := Classical.byContradiction fun hn => hT j g hj hn (by omega)
      exact ⟨g.1, List.mem_append_right _ (List.mem_map.2 ⟨j, hjT, by rw [gAt_of hj]⟩), by omega⟩
  · left; omega
theorem inl_once {c : CirT} (h : GoodC' c) : c.inl.Nodup := by
  have := h.once
  rw [List.nodup_append] at this
  exact this.1
/-- A gate's literal is put but once. -/
theorem gate_new {c : CirT} (h : GoodC' c) {i : Nat} {g : G3} (hg : c.gates[i]? = some g) {T : List Nat} (hT : ∀ j ∈ T, j < c.gates.length) (hi : i ∉ T) : g.1 ∉ c.inl ++ T.map (fun i => (gAt c.gates i).1) := by
  intro hm
  have ho := h.once
  rw [List.nodup_append] at ho
  rcases List.mem_append.1 hm with h1 | h1
  · exact ho.2.2 _ h1 _ (List.mem_map.2 ⟨g, List.mem_of_getElem? hg, rfl⟩) rfl
  · obtain ⟨j, hj, he⟩ := List.mem_map.1 h1
    obtain ⟨x, hx⟩ := getI c.gates (hT j hj)
    rw [gAt_of hx] at he
    have hp := List.pairwise_iff_getElem.1 (List.nodup_iff_pairwise_ne.1 ho.2.1)
    have li : i < (c.gates.map (·.1)).length := by rw [List.length_map]; exact lt_of_get hg
    have lj : j < (c.gates.map (·.1)).length := by rw [List.length_map]; exact lt_of_get hx
    have ei : (c.gates.map (·.1))[i] = g.1 := by have := (List.getElem?_eq_some_iff.1 hg).2; simp [this]
    have ej : (c.gates.map (·.1))[j] = x.1 := by have := (List.getElem?_eq_some_iff.1 hx).2; simp [this]
    have hne : i ≠ j := fun e => hi (by rw [e]; exact hj)
    rcases Nat.lt_or_gt_of_ne hne with h2 | h2
    · exact hp i j li lj h2 (by rw [ei, ej, he])
    · exact hp j i lj li h2 (by rw [ei, ej, he])
theorem net_to {c : CirT} (h : GoodC' c) : ∀ k, k ≤ (ordL c.gates).length →
    PutOk (cGates c.gates (cIn ([], cAt0 c.max) c.inl) ((ordL c.gates).take k)) (c.inl ++ ((ordL c.gates).take k).map (fun i => (gAt c.gates i).1)) c.max.toNat ∧ GoodNet (cGates c.gates (cIn ([], cAt0 c.max) c.inl) ((ordL c.gates).take k)).1 := by
  have hm : ((c.max.toNat : Nat) : Int) = c.max := by have := h.max; omega
  intro k
  induction k with
  | zero =>
    intro _
    have h1 := cIn_ok (m := c.max.toNat) c.inl ([], cAt0 c.max) [] (by have := PutOk.start c.max.toNat; rwa [hm] at this) (fun y hy => by cases hy) (fun l hl => by rw [hm]; exact h.own l (List.mem_append_left _ hl)) (by rw [List.nil_append]; exact inl_once h) (fun i x hx => by simp at hx)
    simpa [cGates] using h1
  | succ k ih =>
    intro hk
    obtain ⟨i, hi⟩ := getI (ordL c.gates) (show k < _ by omega)
    obtain ⟨h1, h2⟩ := ih (by omega)
    have hO := (ordL_is c.gates).1
    obtain ⟨g, hg, hn, hr⟩ := (hO k i hi).1
    have hgg := h.gate hg
    have hm' := List.mem_of_getElem? hg
    have ua : g.2.1 ∈ c.used := List.mem_append_right _ (List.mem_flatMap.2 ⟨g, hm', by simp⟩)
    have ub : g.2.2 ∈ c.used := List.mem_append_right _ (List.mem_flatMap.2 ⟨g, hm', by simp⟩)
    have pa := h1.ge (used_put h ua fun j x hx hj => (hr j x hx hj).1)
    have pb := h1.ge (used_put h ub fun j x hx hj => (hr j x hx hj).2)
    have hlt : ∀ j ∈ (ordL c.gates).take k, j < c.gates.length := fun j hj => hO.lt j (List.mem_of_mem_take hj)
    rw [take_succ' hi, cGates_snoc, List.map_append, ← List.append_assoc]
    have eg : gAt c.gates i = g := gAt_of hg
    have hsq : ∀ y ∈ c.inl ++ ((ordL c.gates).take k).map (fun i => (gAt c.gates i).1), 2 ≤ y ∧ y % 2 = 0 := fun y hy => by
      have : y ∈ c.own := by
        rcases List.mem_append.1 hy with hy | hy
        · exact List.mem_append_left _ hy
        · obtain ⟨j, hj, rfl⟩ := List.mem_map.1 hy
          obtain ⟨x, hx⟩ := getI c.gates (hlt j hj)
          exact List.mem_append_right _ (List.mem_map.2 ⟨x, List.mem_of_getElem? hx, by rw [gAt_of hx]⟩)
      exact ⟨(h.own y this).1, (h.own y this).2.1⟩
    have hp := h1.push (l := g.1) (by rw [hm]; exact hgg.1) hsq (gate_new h hg hlt hn)
    refine ⟨?_, ?_⟩
    · unfold cGate; rw [List.map_singleton, eg]; exact hp _
    · unfold cGate; rw [eg]
      intro j x hx
      have hx' : ((cGates c.gates (cIn ([], cAt0 c.max) c.inl) ((ordL c.gates).take k)).1 ++ [_])[j]? = some x := hx
      obtain ⟨za, a1, a2, a3, a4⟩ := pa
      obtain ⟨zb, b1, b2, b3, b4⟩ := pb
      rw [litI_some a1, litI_some b1] at hx'
      by_cases hj : j < (cGates c.gates (cIn ([], cAt0 c.max) c.inl) ((ordL c.gates).take k)).1.length
      · rw [List.getElem?_append_left hj] at hx'; exact h2 j x hx'
      · rw [List.getElem?_append_right (by omega)] at hx'
        have h0 : j - (cGates c.gates (cIn ([], cAt0 c.max) c.inl) ((ordL c.gates).take k)).1.length = 0 := by have := lt_of_get hx'; simpa using this
        rw [h0] at hx'
        simp only [List.getElem?_cons_zero, Option.some.injEq] at hx'
        subst hx'
        have ka : 0 ≤ xorI za (g.2.1 % 2) ∧ xorI za (g.2.1 % 2) ≤ za + 1 := by unfold xorI Lt.xor1; split <;> (try split) <;> omega
        have kb : 0 ≤ xorI zb (g.2.2 % 2) ∧ xorI zb (g.2.2 % 2) ≤ zb + 1 := by unfold xorI Lt.xor1; split <;> (try split) <;> omega
        unfold badNode
        dsimp only
        omega
theorem cNet_ok {c : CirT} (h : GoodC' c) : PutOk (cNet c) c.seq c.max.toNat ∧ GoodNet (cNet c).1 := by
  have h1 := net_to h _ (Nat.le_refl _)
  rw [List.take_length] at h1
  exact h1
/-- All gates are told. -/
theorem ord_all {c : CirT} (h : GoodC' c) {i : Nat} (hi : i < c.gates.length) : i ∈ ordL c.gates := by
  refine Classical.byContradiction fun hn => ?_
  have hO := (ordL_is c.gates).1
  have h1 := nodup_le c.gates.length (i :: ordL c.gates) (List.nodup_cons.2 ⟨hn, hO.nodup⟩) (fun j hj => by
    rcases List.mem_cons.1 hj with rfl | hj
    · exact hi
    · exact hO.lt j hj)
  have := h.ord
  simp only [List.length_cons] at h1
  omega
theorem seq_all {c : CirT} (h : GoodC' c) {l : Int} (hl : l ∈ c.own) : l ∈ c.seq := by
  rcases List.mem_append.1 hl with h1 | h1
  · exact List.mem_append_left _ h1
  · obtain ⟨g, hg, rfl⟩ := List.mem_map.1 h1
    obtain ⟨i, hi⟩ := List.mem_iff_getElem?.1 hg
    exact List.mem_append_right _ (List.mem_map.2 ⟨i, ord_all h (lt_of_get hi), by rw [gAt_of hi]⟩)
end Go.Proofs.Yteidpnpbfagaeaa
namespace Go.Proofs.Yteidpnpbfagaeaa
open Go Go.Lt Go.RowKit
set_option linter.unusedVariables false
set_option linter.unusedSimpArgs false
set_option maxRecDepth 20000

/-- Two results: rows of one's own. -/
def IsFresh2 {α β : Type} (s : Nat) (enc : α → List Value) (el : TypeId) (t : Nat) (encb : β → List Value) (elb : TypeId) (w : World) (L : List α) (M : List β) (v : Value) (w' : World) : Prop :=
  Ext w w' ∧ ∃ a cap b cb, v = .tuple #[.slice a L.length cap, .slice b M.length cb] ∧ Own s enc el w.heap.size w' a cap L ∧ Own t encb elb w.heap.size w' b cb M

end Go.Proofs.Yteidpnpbfagaeaa
namespace Go.Proofs.Yteidpnpbfagaeaa
open Go Go.Lt Go.RowKit
set_option linter.unusedVariables false
set_option linter.unusedSimpArgs false
set_option maxRecDepth 20000

theorem cIn_len (s : NA) (ls : List Int) : (cIn s ls).1.length = s.1.length + ls.length ∧ (cIn s ls).2.length = s.2.length := by
  induction ls generalizing s with
  | nil => exact ⟨rfl, rfl⟩
  | cons l ls ih =>
    have := ih (cput s l (-1, 0))
    refine ⟨?_, ?_⟩
    · show (cIn (cput s l (-1, 0)) ls).1.length = _
      rw [this.1]; simp [cput]; omega
    · show (cIn (cput s l (-1, 0)) ls).2.length = _
      rw [this.2]; simp [cput]
theorem cIn_take (s : NA) {ls : List Int} {k : Nat} {x : Int} (h : ls[k]? = some x) : cIn s (ls.take (k + 1)) = cput (cIn s (ls.take k)) x (-1, 0) := by rw [take_succ' h, cIn_snoc]
noncomputable def cS1 (c : CirT) (k : Nat) : NA := cIn ([], cAt0 c.max) (c.ins.take k)
noncomputable def cS2 (c : CirT) (k : Nat) : NA := cIn (cS1 c c.ins.length) ((c.lat.map (·.1)).take k)
noncomputable def cS3 (c : CirT) (k : Nat) : NA := cGates c.gates (cS2 c c.lat.length) ((ordL c.gates).take k)
theorem cS1_0 (c : CirT) : cS1 c 0 = ([], cAt0 c.max) := by unfold cS1; rw [List.take_zero]; rfl
theorem cS1_s {c : CirT} {k : Nat} {x : Int} (h : c.ins[k]? = some x) : cS1 c (k + 1) = cput (cS1 c k) x (-1, 0) := cIn_take _ h
theorem cS1_len (c : CirT) {k : Nat} (h : k ≤ c.ins.length) : (cS1 c k).1.length = k ∧ (cS1 c k).2.length = c.max.toNat + 1 := by
  have := cIn_len ([], cAt0 c.max) (c.ins.take k)
  refine ⟨by unfold cS1; rw [this.1, List.length_take]; simp; omega, by unfold cS1; rw [this.2]; simp [cAt0]⟩
theorem cS2_0 (c : CirT) : cS2 c 0 = cS1 c c.ins.length := by unfold cS2; rw [List.take_zero]; rfl
theorem cS2_s {c : CirT} {k : Nat} {x : T3} (h : c.lat[k]? = some x) : cS2 c (k + 1) = cput (cS2 c k) x.1 (-1, 0) := cIn_take _ (by rw [List.getElem?_map, h]; rfl)
theorem cS2_len (c : CirT) {k : Nat} (h : k ≤ c.lat.length) : (cS2 c k).1.length = c.ins.length + k ∧ (cS2 c k).2.length = c.max.toNat + 1 := by
  have := cIn_len (cS1 c c.ins.length) ((c.lat.map (·.1)).take k)
  have h1 := cS1_len c (Nat.le_refl c.ins.length)
  refine ⟨by unfold cS2; rw [this.1, h1.1, List.length_take, List.length_map]; omega, by unfold cS2; rw [this.2, h1.2]⟩
theorem cS2_all (c : CirT) : cS2 c c.lat.length = cIn ([], cAt0 c.max) c.inl := by
  unfold cS2 cS1
  rw [List.take_length, show c.lat.length = (c.lat.map (·.1)).length from (List.length_map _).symm, List.take_length]
  unfold cIn; rw [← List.foldl_append]
theorem cS3_0 (c : CirT) : cS3 c 0 = cS2 c c.lat.length := by unfold cS3; rw [List.take_zero]; rfl
theorem cS3_s {c : CirT} {k i : Nat} (h : (ordL c.gates)[k]? = some i) : cS3 c (k + 1) = cGate c.gates (cS3 c k) i := by unfold cS3; rw [take_succ' h, cGates_snoc]
theorem cS3_len (c : CirT) {k : Nat} (h : k ≤ (ordL c.gates).length) : (cS3 c k).1.length = c.ins.length + c.lat.length + k ∧ (cS3 c k).2.length = c.max.toNat + 1 := by
  induction k with
  | zero => rw [cS3_0]; exact cS2_len c (Nat.le_refl _)
  | succ k ih =>
    obtain ⟨i, hi⟩ := getI (ordL c.gates) (show k < _ by omega)
    have := ih (by omega)
    rw [cS3_s hi]
    refine ⟨?_, ?_⟩
    · show (_ ++ [_]).length = _
      rw [List.length_append, this.1, List.length_singleton]; omega
    · show (List.set _ _ _).length = _
      rw [List.length_set, this.2]
theorem cS3_all (c : CirT) : cS3 c (ordL c.gates).length = cNet c := by unfold cS3 cNet; rw [List.take_length, cS2_all]
/-- What a gate's two are, when it is put. -/
theorem cS3_get {c : CirT} (h : GoodC' c) {k i : Nat} (hi : (ordL c.gates)[k]? = some i) : ∃ g za zb, c.gates[i]? = some g ∧ (cS3 c k).2[(g.2.1 / 2).toNat]? = some za ∧ (cS3 c k).2[(g.2.2 / 2).toNat]? = some zb ∧ (0 ≤ za ∧ za ≤ 2 * ((cS3 c k).1.length : Int)) ∧ (0 ≤ zb ∧ zb ≤ 2 * ((cS3 c k).1.length : Int)) := by
  have hO := (ordL_is c.gates).1
  obtain ⟨g, hg, hn, hr⟩ := (hO k i hi).1
  have h1 := (net_to h k (Nat.le_of_lt (lt_of_get hi))).1
  have e : cGates c.gates (cIn ([], cAt0 c.max) c.inl) ((ordL c.gates).take k) = cS3 c k := by unfold cS3; rw [cS2_all]
  rw [e] at h1
  have hm' := List.mem_of_getElem? hg
  have ua : g.2.1 ∈ c.used := List.mem_append_right _ (List.mem_flatMap.2 ⟨g, hm', by simp⟩)
  have ub : g.2.2 ∈ c.used := List.mem_append_right _ (List.mem_flatMap.2 ⟨g, hm', by simp⟩)
  obtain ⟨za, a1, a2, _, a3⟩ := h1.ge (used_put h ua fun j x hx hj => (hr j x hx hj).1)
  obtain ⟨zb, b1, b2, _, b3⟩ := h1.ge (used_put h ub fun j x hx hj => (hr j x hx hj).2)
  exact ⟨g, za, zb, hg, a1, b1, ⟨a2, a3⟩, ⟨b2, b3⟩⟩

end Go.Proofs.Yteidpnpbfagaeaa
namespace Go.Proofs.Yteidpnpbfagaeaa
open Go Go.Lt Go.RowKit
set_option linter.unusedVariables false
set_option linter.unusedSimpArgs false
set_option maxRecDepth 20000

theorem used_next {c : CirT} {x : T3} (h : x ∈ c.lat) : x.2.1 ∈ c.used := List.mem_append_left _ (List.mem_append_right _ (List.mem_map.2 ⟨x, h, rfl⟩))
theorem net_len {c : CirT} (h : GoodC' c) (hz : SzC c 100000) : (cNet c).1.length ≤ 300000 := by
  rw [(cNet_ok h).1.len1]
  have h2 := (ordL_is c.gates).1.le
  obtain ⟨z1, z2, z3, z4, z5, z6⟩ := hz
  show (c.ins ++ c.lat.map (·.1) ++ (ordL c.gates).map (fun i => (gAt c.gates i).1)).length ≤ _
  simp; omega
end Go.Proofs.Yteidpnpbfagaeaa
namespace Go.Proofs.Yteidpnpbfagaeaa
open Go Go.Lt Go.RowKit
set_option linter.unusedVariables false
set_option linter.unusedSimpArgs false
set_option maxRecDepth 20000

def KnL (c : CirT) (l : Int) : Prop := 0 ≤ l ∧ (1 < l → l - l % 2 ∈ c.own)
theorem knL_used {c : CirT} (h : GoodC' c) {l : Int} (hl : l ∈ c.used) : KnL c l := ⟨(h.used l hl).1, h.has l hl⟩
theorem knL_lit {c : CirT} (h : GoodC' c) {l : Int} (hl : KnL c l) : ∃ z, (cNet c).2[(l / 2).toNat]? = some z ∧ 0 ≤ z ∧ z % 2 = 0 ∧ z ≤ 2 * ((cNet c).1.length : Int) := by
  have h0 := (cNet_ok h).1
  refine h0.ge ?_
  rcases Int.lt_or_le 1 l with h2 | h2
  · exact .inr ⟨_, seq_all h (hl.2 h2), by omega⟩
  · left; have := hl.1; omega
theorem knL_max {c : CirT} (h : GoodC' c) {l : Int} (hl : KnL c l) : l ≤ 2 * c.max + 1 := by
  have hm := h.max
  by_cases h1 : 1 < l
  · have := h.own _ (hl.2 h1); omega
  · omega
theorem knL_range {c : CirT} (h : GoodC' c) {l : Int} (hl : KnL c l) : 0 ≤ litI (cNet c).2 l ∧ litI (cNet c).2 l ≤ 2 * ((cNet c).1.length : Int) + 1 := by
  obtain ⟨z, h1, h2, h3, h4⟩ := knL_lit h hl
  rw [litI_some h1]
  unfold xorI Lt.xor1
  split <;> (try split) <;> omega
def b3 (b : Bool) : Int := if b = true then 1 else 0
def v3 (l : List Bool) : List Int := l.map b3
section
variable {c : CirT} {s i : List Bool} {want : List Int}
end
end Go.Proofs.Yteidpnpbfagaeaa
namespace Go.Proofs.Yteidpnpbfagaeaa
open Go Go.Lt Go.RowKit
set_option linter.unusedVariables false
set_option linter.unusedSimpArgs false
set_option maxRecDepth 20000

/-- Frames: the store's nodes, the literals of the inputs, the copies of the net, the states. -/
structure UnV where
  N : List (Int × Int)
  ins : List (List Int)
  own : List (List Int)
  st : List (List Int)
open Classical in
noncomputable def fstep (free : Bool) (s : List Int × List (Int × Int)) (t : T3) : List Int × List (Int × Int) :=
  if free = true ∨ 1 < t.2.2 then (s.1 ++ [2 * ((s.2.length : Int) + 1)], s.2 ++ [(-1, 0)]) else (s.1 ++ [t.2.2], s.2)
noncomputable def firstTo (c : CirT) (free : Bool) (k : Nat) : List Int × List (Int × Int) := (c.lat.take k).foldl (fstep free) ([], [])
theorem firstTo_succ {c : CirT} {free : Bool} {k : Nat} {t : T3} (h : c.lat[k]? = some t) : firstTo c free (k + 1) = fstep free (firstTo c free k) t := by
  unfold firstTo; rw [take_succ' h, List.foldl_append]; rfl
theorem fstep_in {free : Bool} {s : List Int × List (Int × Int)} {t : T3} (h : free = true ∨ 1 < t.2.2) : fstep free s t = (s.1 ++ [2 * ((s.2.length : Int) + 1)], s.2 ++ [(-1, 0)]) := by unfold fstep; rw [if_pos h]
theorem fstep_no {free : Bool} {s : List Int × List (Int × Int)} {t : T3} (h : ¬ (free = true ∨ 1 < t.2.2)) : fstep free s t = (s.1 ++ [t.2.2], s.2) := by unfold fstep; rw [if_neg h]
theorem firstTo_inv {c : CirT} (hg : GoodC' c) (free : Bool) : ∀ k, k ≤ c.lat.length → (firstTo c free k).1.length = k ∧ (firstTo c free k).2.length ≤ k ∧ (∀ z ∈ (firstTo c free k).1, hasL (firstTo c free k).2 z) ∧ Tidy (firstTo c free k).2 ∧ Grow [] (firstTo c free k).2
  | 0, _ => ⟨rfl, Nat.le_refl _, fun z hz => (by cases hz), Tidy.nil, .refl _⟩
  | k + 1, hk => by
    obtain ⟨t, ht⟩ := getI c.lat (show k < _ by omega)
    obtain ⟨i1, i2, i3, i4, i5⟩ := firstTo_inv hg free k (by omega)
    have hr := hg.res t (List.mem_of_getElem? ht)
    rw [firstTo_succ ht]
    generalize firstTo c free k = s at i1 i2 i3 i4 i5
    by_cases h : free = true ∨ 1 < t.2.2
    · rw [fstep_in h]
      refine ⟨by simp [i1], by simp; omega, fun z hz => ?_, i4.input, .input i5⟩
      rcases List.mem_append.1 hz with hz | hz
      · exact hasL_mono (i3 z hz) (by simp)
      · rw [List.mem_singleton.1 hz]; unfold hasL; simp; omega
    · rw [fstep_no h]
      refine ⟨by simp [i1], by dsimp only; omega, fun z hz => ?_, i4, i5⟩
      rcases List.mem_append.1 hz with hz | hz
      · exact i3 z hz
      · rw [List.mem_singleton.1 hz]
        have h2 : ¬ 1 < t.2.2 := fun hh => h (.inr hh)
        unfold hasL; dsimp only
        rcases hr with hr | hr | hr
        · omega
        · omega
        · have := hg.own t.1 (List.mem_append_left _ (List.mem_append_right _ (List.mem_map.2 ⟨t, List.mem_of_getElem? ht, rfl⟩))); omega
/-- So many new inputs. -/
def uinTo (N : List (Int × Int)) : Nat → List Int × List (Int × Int)
  | 0 => ([], N)
  | k + 1 => ((uinTo N k).1 ++ [2 * (((uinTo N k).2.length : Int) + 1)], (uinTo N k).2 ++ [(-1, 0)])
theorem uinTo_inv (N : List (Int × Int)) : ∀ k, (uinTo N k).1.length = k ∧ (uinTo N k).2.length = N.length + k ∧ (∀ z ∈ (uinTo N k).1, hasL (uinTo N k).2 z) ∧ Grow N (uinTo N k).2
  | 0 => ⟨rfl, rfl, fun z hz => (by cases hz), .refl _⟩
  | k + 1 => by
    obtain ⟨i1, i2, i3, i4⟩ := uinTo_inv N k
    refine ⟨by simp [uinTo, i1], by simp [uinTo, i2]; omega, fun z hz => ?_, .input i4⟩
    rcases List.mem_append.1 hz with hz | hz
    · exact hasL_mono (i3 z hz) (by simp [uinTo])
    · rw [List.mem_singleton.1 hz]; unfold hasL; simp [uinTo]; omega
/-- A variable's literal, and that of its inverse. -/
def signs (own : List Int) (a : Int) : Int × Int := if 0 ≤ a then (own.getD (a / 2).toNat 0, Lt.xor1 (own.getD (a / 2).toNat 0)) else (-1, -1)
noncomputable def signsL (c : CirT) (own : List Int) : List (Int × Int) := (cNet c).2.map (signs own)
def pickS (p : Int × Int) (l : Int) : Int := if l % 2 = 1 then p.2 else p.1
/-- A literal's literal in a frame. -/
noncomputable def uLit (c : CirT) (own : List Int) (l : Int) : Int :=
  if 0 ≤ l ∧ l ≤ 2 * c.max + 1 then pickS (signs own ((cNet c).2.getD (l / 2).toNat 0)) l else -1
theorem at_len {c : CirT} (hg : GoodC' c) : ((cNet c).2.length : Int) = c.max + 1 := by
  have h1 := (cNet_ok hg).1.len2
  have := hg.max
  omega
theorem signsL_len (c : CirT) (own : List Int) : (signsL c own).length = (cNet c).2.length := List.length_map _
/-- What is where. -/
theorem at_is {c : CirT} (hg : GoodC' c) {v : Nat} {a : Int} (h : (cNet c).2[v]? = some a) : a = -1 ∨ (0 ≤ a ∧ a % 2 = 0 ∧ a ≤ 2 * ((cNet c).1.length : Int)) := by
  have hP := (cNet_ok hg).1
  have hl := hP.len2
  have hv := lt_of_get h
  by_cases h0 : v = 0
  · subst h0
    rw [hP.zero] at h; cases h; right; omega
  · by_cases hex : ∃ l ∈ c.seq, (l / 2).toNat = v
    · obtain ⟨l, hm, he⟩ := hex
      obtain ⟨i, hi⟩ := List.mem_iff_getElem?.1 hm
      have h2 := hP.has i l hi
      rw [he, h] at h2
      cases h2
      have := lt_of_get hi
      have := hP.len1
      right; omega
    · have h2 := hP.not v (by omega) (by omega) (fun l hm he => hex ⟨l, hm, he⟩)
      rw [h] at h2; cases h2; left; rfl
theorem uLit_known {c : CirT} (hg : GoodC' c) (own : List Int) (h0 : ∀ z ∈ own, 0 ≤ z) (hl : own.length = (cNet c).1.length + 1) {l : Int} (hk : KnL c l) : uLit c own l = litI own (litI (cNet c).2 l) := by
  obtain ⟨z, z1, z2, z3, z4⟩ := knL_lit hg hk
  have hm := knL_max hg hk
  unfold uLit
  rw [if_pos ⟨hk.1, hm⟩, getD_of z1, litI_some z1]
  unfold signs pickS
  rw [if_pos z2]
  have e : xorI z (l % 2) = z + l % 2 := by
    unfold xorI Lt.xor1
    split <;> (try split) <;> omega
  rw [e]
  obtain ⟨y, hy⟩ := getI own (show (z / 2).toNat < own.length by omega)
  have hp : (z + l % 2) % 2 = l % 2 := by omega
  rw [litI_some (x := z + l % 2) (z := y) (by rw [show (z + l % 2) / 2 = z / 2 by omega]; exact hy), getD_of hy, hp]
  unfold xorI
  rfl
theorem uLit_has {c : CirT} (hg : GoodC' c) {N : List (Int × Int)} {own : List Int} (ho : ∀ z ∈ own, hasL N z) (hl : own.length = (cNet c).1.length + 1) {l : Int} (hk : KnL c l) : hasL N (uLit c own l) := by
  rw [uLit_known hg own (fun z hz => (ho z hz).1) hl hk]
  have hr := knL_range hg hk
  exact hasL_litI ho (by omega)
noncomputable def nextU (c : CirT) (own : List Int) : List Int := c.lat.map fun t => uLit c own t.2.1
theorem nextU_len (c : CirT) (own : List Int) : (nextU c own).length = c.lat.length := List.length_map _
/-- The last state. -/
def UnV.last (u : UnV) : List Int := u.st.getD (u.st.length - 1) []
noncomputable def cpU (c : CirT) (u : UnV) : List Int × List (Int × Int) := copyV (uinTo u.N c.ins.length).2 (cNet c).1 ((uinTo u.N c.ins.length).1 ++ u.last)
noncomputable def growU (c : CirT) (u : UnV) : UnV := ⟨(cpU c u).2, u.ins ++ [(uinTo u.N c.ins.length).1], u.own ++ [(cpU c u).1], u.st ++ [nextU c (cpU c u).1]⟩
noncomputable def newU (c : CirT) (free : Bool) : UnV := ⟨(firstTo c free c.lat.length).2, [], [], [(firstTo c free c.lat.length).1]⟩
structure UOk (c : CirT) (u : UnV) : Prop where
  li : u.ins.length = u.own.length
  ls : u.st.length = u.own.length + 1
  st : ∀ s ∈ u.st, s.length = c.lat.length ∧ ∀ z ∈ s, hasL u.N z
  own : ∀ o ∈ u.own, o.length = (cNet c).1.length + 1 ∧ ∀ z ∈ o, hasL u.N z
  ins : ∀ s ∈ u.ins, s.length = c.ins.length ∧ ∀ z ∈ s, hasL u.N z
  tidy : Tidy u.N
theorem newU_ok {c : CirT} (hg : GoodC' c) (free : Bool) : UOk c (newU c free) ∧ (newU c free).N.length ≤ c.lat.length := by
  obtain ⟨i1, i2, i3, i4, _⟩ := firstTo_inv hg free c.lat.length (Nat.le_refl _)
  refine ⟨⟨rfl, rfl, fun s hs => ?_, fun o ho => (by cases ho), fun o ho => (by cases ho), i4⟩, i2⟩
  rw [List.mem_singleton.1 hs]; exact ⟨i1, i3⟩
theorem UOk.last {c : CirT} {u : UnV} (h : UOk c u) : u.st[u.st.length - 1]? = some u.last ∧ u.last.length = c.lat.length ∧ ∀ z ∈ u.last, hasL u.N z := by
  have h1 := h.ls
  obtain ⟨s, hs⟩ := getI u.st (show u.st.length - 1 < u.st.length by omega)
  have e : u.last = s := getD_of hs
  rw [e]
  exact ⟨hs, (h.st s (List.mem_of_getElem? hs)).1, (h.st s (List.mem_of_getElem? hs)).2⟩
theorem copyV_yes {N n : List (Int × Int)} {ins : List Int} (hh : ∀ z ∈ ins, hasL N z) : copyV N n ins = ((cto N n ins n.length).1, (cto N n ins n.length).2.2) := by unfold copyV; rw [dec_true hh]; rfl
theorem cpU_ok {c : CirT} (hg : GoodC' c) {u : UnV} (h : UOk c u) : (∀ z ∈ (uinTo u.N c.ins.length).1 ++ u.last, hasL (uinTo u.N c.ins.length).2 z) ∧ (cpU c u).1.length = (cNet c).1.length + 1 ∧ (∀ z ∈ (cpU c u).1, hasL (cpU c u).2 z) ∧ u.N.length ≤ (cpU c u).2.length ∧ (cpU c u).2.length ≤ u.N.length + c.ins.length + (cNet c).1.length ∧ Grow u.N (cpU c u).2 := by
  obtain ⟨i1, i2, i3, i4⟩ := uinTo_inv u.N c.ins.length
  have hh : ∀ z ∈ (uinTo u.N c.ins.length).1 ++ u.last, hasL (uinTo u.N c.ins.length).2 z := fun z hz => by
    rcases List.mem_append.1 hz with hz | hz
    · exact i3 z hz
    · exact hasL_mono (h.last.2.2 z hz) (by omega)
  obtain ⟨j1, j2, j3, j4, j5, _⟩ := cto_inv (cNet_ok hg).2 hh (cNet c).1.length (Nat.le_refl _)
  unfold cpU
  rw [copyV_yes hh]
  exact ⟨hh, j1, j2, by dsimp only; omega, by dsimp only; omega, i4.trans j5⟩
theorem growU_ok {c : CirT} (hg : GoodC' c) {u : UnV} (h : UOk c u) : UOk c (growU c u) ∧ u.N.length ≤ (growU c u).N.length ∧ (growU c u).N.length ≤ u.N.length + c.ins.length + (cNet c).1.length ∧ Grow u.N (growU c u).N := by
  obtain ⟨_, j1, j2, j3, j4, j5⟩ := cpU_ok hg h
  obtain ⟨i1, i2, i3, i4⟩ := uinTo_inv u.N c.ins.length
  have hl1 := h.li
  have hl2 := h.ls
  have hgr : Grow (uinTo u.N c.ins.length).2 (cpU c u).2 := by
    have hh := (cpU_ok hg h).1
    unfold cpU; rw [copyV_yes hh]
    exact (cto_inv (cNet_ok hg).2 hh (cNet c).1.length (Nat.le_refl _)).2.2.2.2.1
  refine ⟨⟨by simp [growU, hl1], by simp [growU, hl2], fun s hs => ?_, fun s hs => ?_, fun s hs => ?_, j5.tidy h.tidy⟩, j3, j4, j5⟩
  · rcases List.mem_append.1 hs with hs | hs
    · exact ⟨(h.st s hs).1, fun z hz => hasL_mono ((h.st s hs).2 z hz) j3⟩
    · rw [List.mem_singleton.1 hs]
      refine ⟨nextU_len _ _, fun z hz => ?_⟩
      obtain ⟨t, ht, rfl⟩ := List.mem_map.1 hz
      exact uLit_has hg j2 j1 (knL_used hg (used_next ht))
  · rcases List.mem_append.1 hs with hs | hs
    · exact ⟨(h.own s hs).1, fun z hz => hasL_mono ((h.own s hs).2 z hz) j3⟩
    · rw [List.mem_singleton.1 hs]; exact ⟨j1, j2⟩
  · rcases List.mem_append.1 hs with hs | hs
    · exact ⟨(h.ins s hs).1, fun z hz => hasL_mono ((h.ins s hs).2 z hz) j3⟩
    · rw [List.mem_singleton.1 hs]; exact ⟨i1, fun z hz => hgr.has (i3 z hz)⟩
/-- One of some; -1: there is none such. -/
def pickL (l : List Int) (i : Int) : Int := if 0 ≤ i ∧ i < (l.length : Int) then l.getD i.toNat 0 else -1
def rowU (ls : List (List Int)) (k : Int) : List Int := if 0 ≤ k ∧ k < (ls.length : Int) then ls.getD k.toNat [] else []
def UnV.state (u : UnV) (k i : Int) : Int := pickL (rowU u.st k) i
noncomputable def UnV.lit (c : CirT) (u : UnV) (k l : Int) : Int := if 0 ≤ k ∧ k < (u.own.length : Int) then uLit c (u.own.getD k.toNat []) l else -1
noncomputable def UnV.cons (c : CirT) (u : UnV) (k : Int) : List Int := if 0 ≤ k ∧ k < (u.own.length : Int) then c.cons.map (fun x => u.lit c k x) else []
end Go.Proofs.Yteidpnpbfagaeaa
