/- Maps with keys of structs. Generic over the program. No conditions. -/
import Derived.Test.YtfkdlepemiepdaaLtEq
namespace Go.Lt
open Go.RowKit
set_option linter.unusedVariables false
set_option linter.unusedSimpArgs false

/-- The map at r holds these, in the order in which they came. -/
def MapIs {κ ν : Type} (kv : κ → Value) (vv : ν → Value) (w : World) (r : Nat) (L : List (κ × ν)) : Prop :=
  ∃ es clock, w.heap[r]? = some (.map es clock) ∧ es.toList.map (fun e => (e.key, e.val)) = L.map (fun x => (kv x.1, vv x.2))
theorem MapIs.keep {κ ν : Type} {kv : κ → Value} {vv : ν → Value} {w w' : World} {r : Nat} {L : List (κ × ν)} (h : MapIs kv vv w r L) (hr : w'.heap[r]? = w.heap[r]?) : MapIs kv vv w' r L := by
  obtain ⟨es, clock, h1, h2⟩ := h
  exact ⟨es, clock, by rw [hr]; exact h1, h2⟩
theorem MapIs.lt {κ ν : Type} {kv : κ → Value} {vv : ν → Value} {w : World} {r : Nat} {L : List (κ × ν)} (h : MapIs kv vv w r L) : r < w.heap.size := by
  obtain ⟨es, clock, h1, _⟩ := h; exact heap_lt h1
theorem MapIs.ext {κ ν : Type} {kv : κ → Value} {vv : ν → Value} {w w' : World} {r : Nat} {L : List (κ × ν)} (h : MapIs kv vv w r L) (hx : Ext w w') : MapIs kv vv w' r L := h.keep (hx.block r h.lt)
def pmap {κ ν : Type} (kv : κ → Value) (vv : ν → Value) (r : Nat) (L : List (κ × ν)) : Piece := ⟨some r, fun w => MapIs kv vv w r L, fun h hb => h.keep (hb r rfl)⟩

noncomputable def mfind {κ ν : Type} (vv : ν → Value) (a : κ) : List (κ × ν) → Nat → Option (Nat × Value)
  | [], _ => none
  | x :: r, i => bif dec (a = x.1) then some (i, vv x.2) else mfind vv a r (i + 1)
noncomputable def mget {κ ν : Type} (a : κ) : List (κ × ν) → Option ν
  | [] => none
  | x :: r => bif dec (a = x.1) then some x.2 else mget a r
theorem mfind_get {κ ν : Type} (vv : ν → Value) (a : κ) : ∀ (L : List (κ × ν)) (i : Nat), (mfind vv a L i).map (·.2) = (mget a L).map vv
  | [], _ => rfl
  | x :: r, i => by
    unfold mfind mget
    cases dec (a = x.1)
    · exact mfind_get vv a r (i + 1)
    · rfl

/-- Keys that can be held against each other, and looked at, without ado. -/
structure KeyOk {κ : Type} (P : Program) (kt : TypeId) (kv : κ → Value) : Prop where
  struct : ∃ fs, P.underlying kt = some (.struct fs)
  eq : ∀ a b w, (Op.equal kt (kv a) (kv b)).run P w = .ok (dec (a = b)) w
  chk : ∀ empty a w, (Instr.checkKey empty 10000 kt (kv a)).run P w = .ok () w

section
variable {P : Program} {κ ν : Type} {kt : TypeId} {kv : κ → Value} {vv : ν → Value}
theorem run_findAsking (hk : KeyOk P kt kv) (a : κ) (w : World) : ∀ (es : List MapEntry) (L : List (κ × ν)) (i : Nat), es.map (fun e => (e.key, e.val)) = L.map (fun x => (kv x.1, vv x.2)) → (Instr.findAsking kt (kv a) es i).run P w = .ok (mfind vv a L i) w
  | [], L, i, h => by
    cases L with
    | nil => simp [Instr.findAsking, mfind]
    | cons x r => simp at h
  | e :: es, [], i, h => by simp at h
  | e :: es, x :: r, i, h => by
    simp only [List.map_cons, List.cons.injEq, Prod.mk.injEq] at h
    obtain ⟨⟨h1, h2⟩, h3⟩ := h
    have ih := run_findAsking hk a w es r (i + 1) h3
    simp only [Instr.findAsking, Sem.run_bind, h1, hk.eq, Result.andThen_ok, mfind, h2]
    cases dec (a = x.1)
    · simpa using ih
    · simp
theorem run_findKey' (hk : KeyOk P kt kv) (a : κ) (w : World) {es : List MapEntry} {L : List (κ × ν)} (h : es.map (fun e => (e.key, e.val)) = L.map (fun x => (kv x.1, vv x.2))) : (Instr.findKey kt (kv a) es).run P w = .ok (mfind vv a L 0) w := by
  obtain ⟨fs, hfs⟩ := hk.struct
  have hu : (underlying kt).run P w = .ok (.struct fs) w := by simp [underlying, program, Sem.run, hfs]
  simp only [Instr.findKey, Sem.run_bind, hu, Result.andThen_ok]
  cases es with
  | nil =>
    cases L with
    | nil => simp [Instr.findNow, mfind]
    | cons x r => simp at h
  | cons e es =>
    have : Instr.findNow (.struct fs) (kv a) (e :: es) 0 = none := by simp [Instr.findNow, Instr.sameNow]
    rw [this]
    exact run_findAsking hk a w _ L 0 h
end

/-! ### Keys of structs of plain fields -/
def plainD : TypeDesc → Bool
  | .bool | .int _ | .string => true
  | _ => false
def okK (T : Tab) : Nat → List Field → List Value → Bool
  | _, [], [] => true
  | i, f :: fs, x :: xs => (match tget T f.type with | some ti => plainD ti.desc | none => false) && Nat.beq f.offset i && (f.name != "_") && okK T (i + 1) fs xs
  | _, _, _ => false
section
variable {P : Program} {T : Tab}
theorem plain_agg {d : TypeDesc} (h : plainD d = true) : isAggD d = false := by cases d <;> simp [plainD] at h <;> rfl
theorem run_chk_plain (hT : OkTab P T) {t : TypeId} {i : TI} (ht : tget T t = some i) (h : plainD i.desc = true) (b : Bool) (n : Nat) (v : Value) (w : World) : (Instr.checkKey b (n + 1) t v).run P w = .ok () w := by
  have hu := run_underlying' (hT.at ht) w
  unfold Instr.checkKey
  simp only [Sem.run_bind, hu, Result.andThen_ok]
  cases hd : i.desc <;> rw [hd] at h <;> simp [plainD] at h <;> simp
theorem run_chk_fields (hT : OkTab P T) (b : Bool) (n : Nat) (w : World) : ∀ (fs : List Field) (i : Nat) (px xs : List Value), px.length = i → okK T i fs xs = true →
    (forIn (m := Sem) fs PUnit.unit (fun f _ => do
      if f.name ≠ "_" then Instr.checkKey b (n + 1) f.type (← part f.type (px ++ xs).toArray f.offset)
      pure (ForInStep.yield PUnit.unit))).run P w = .ok PUnit.unit w
  | [], i, px, xs, h1, h => by simp
  | f :: fs, i, px, [], h1, h => by simp [okK] at h
  | f :: fs, i, px, x :: xs, h1, h => by
    simp only [okK, Bool.and_eq_true] at h
    obtain ⟨⟨⟨ha, hb⟩, hc⟩, hr⟩ := h
    split at ha
    · rename_i ti hti
      have hoff := Nat.eq_of_beq_eq_true hb
      have hne : f.name ≠ "_" := by simpa using hc
      have e1 : (px ++ x :: xs).toArray[f.offset]? = some x := by rw [hoff]; simp [← h1]
      have r1 := run_part' hT hti (plain_agg ha) e1 w
      have r2 := run_chk_plain hT hti ha b n x w
      have ih := run_chk_fields hT b n w fs (i + 1) (px ++ [x]) xs (by simp [h1]) hr
      simp only [List.append_assoc, List.singleton_append] at ih
      simp only [List.forIn_cons, if_pos hne, Sem.run_bind, r1, r2, Result.andThen_ok, Sem.run_pure]
      exact ih
    · cases ha
theorem keyOk_struct {κ : Type} (hT : OkTab P T) {t : TypeId} {i : TI} {fs : List Field} (enc : κ → List Value) (ht : tget T t = some i) (hd : i.desc = .struct fs.toArray) (hp : P.stoodInHeld t = false)
    (hE : ∀ a b, okF T 0 fs (enc a) (enc b) = true) (hK : ∀ a, okK T 0 fs (enc a) = true) (hinj : ∀ a b, enc a = enc b → a = b) : KeyOk P t (fun a => .agg (enc a).toArray) := by
  have hu := (hT.at ht).1
  rw [hd] at hu
  refine ⟨⟨_, hu⟩, fun a b w => ?_, fun em a w => ?_⟩
  · have := run_eqS (P := P) hT ht hd hp (hE a b) w
    unfold Op.equal
    rw [show Op.maxDepth = 10000 from rfl, this]
    congr 1
    exact dec_congr ⟨hinj a b, fun h => by rw [h]⟩
  · have hu' : (underlying t).run P w = .ok (.struct fs.toArray) w := by simp [underlying, program, Sem.run, hu]
    have key := run_chk_fields hT em 9998 w fs 0 [] (enc a) rfl (hK a)
    rw [show (10000 : Nat) = 9998 + 1 + 1 from rfl]
    rw [Instr.checkKey]
    simp only [Sem.run_bind, hu', Result.andThen_ok]
    rw [← Array.forIn_toList]
    simp at key ⊢
    rw [key]
    simp
end

section rules
variable {P : Program} {N : Nat} {e : Env} {w : World} {Q : Exit → Act → World → Prop} {ops : List Oper} {l : List Oper} {T : Tab} {C : World → Prop} {Kf : Act → Prop}
  {d : Nat} {tt t : TypeId} {ps : String} {af : Array Edge} {g : Option (Nat × Bool)} {x y z : Operand} {ti ei : TI} {κ ν : Type} {kt et : TypeId} {kv : κ → Value} {vv : ν → Value} {L : List (κ × ν)} {a : κ} {v : ν} {r : Nat}

theorem WL.makeMap (hg : gate ops e g = some true) (hd : Nat.blt d N = true)
    (k : ∀ r w', MapIs kv vv w' r ([] : List (κ × ν)) → w.heap.size ≤ r → Ext w w' → WL P N ops.toArray l ((d, .map (some r)) :: e) w' Q) :
    WL P N ops.toArray (⟨some d, .makeMap t none, tt, ps, af, g⟩ :: l) e w Q := by
  refine WL.eff (v := .map (some w.heap.size)) (w' := fun m => (at' w m).alloc (.map #[] 0)) hg hd ?_ (fun m => k _ _ ⟨#[], 0, heap_alloc_new (at' w m) _, rfl⟩ (Nat.le_refl _) ((Ext.refl w).at m |>.trans ((Below.refl _ _).alloc (Nat.le_refl _) _)))
  intro ρ hρ m
  simp [execOp, Instr.makeMap, newObj, Sem.run]
  rfl

theorem run_lookup' (hT : OkTab P T) (hk : KeyOk P kt kv) (ht : tget T t = some ti) (htd : ti.desc = .map kt et) (he : tget T et = some ei) (hM : MapIs kv vv w r L) :
    (Instr.lookup t (.map (some r)) (kv a) true).run P w = .ok (.tuple #[((mget a L).map vv).getD ei.zero, .bool (mget a L).isSome]) w := by
  obtain ⟨es, clock, h1, h2⟩ := hM
  have hu := run_underlying' (hT.at ht) w; rw [htd] at hu
  have hz := run_zeroValue' (hT.at he) w
  have hf := run_findKey' hk a w h2
  have hg : (getObj r).run P w = .ok (.map es clock) w := by simp [getObj, Sem.run, h1]
  have hmg := mfind_get vv a L 0
  simp only [Instr.lookup, Sem.run_bind, hu, Result.andThen_ok, hg, Sem.run_pure, hk.chk, hf]
  cases hm : mfind vv a L 0 with
  | none =>
    rw [hm] at hmg
    cases hg2 : mget a L with
    | none => simp [hz]
    | some q => rw [hg2] at hmg; simp at hmg
  | some q =>
    rw [hm] at hmg
    cases hg2 : mget a L with
    | none => rw [hg2] at hmg; simp at hmg
    | some u =>
      rw [hg2] at hmg
      simp only [Option.map_some, Option.some.injEq] at hmg
      obtain ⟨qi, qv⟩ := q
      simp only at hmg
      subst hmg
      simp
theorem ylookup [Cls C w] (hT : OkTab P T) (hk : KeyOk P kt kv) (hx : ev e x = some (.map (some r))) (hy : ev e y = some (kv a)) (ht : tget T t = some ti) (htd : ti.desc = .map kt et) (he : tget T et = some ei) (hM : MapIs kv vv w r L) {dd : Option Tmp} :
    YieldsIn P e C ⟨dd, .lookup t x y true, tt, ps, af, g⟩ (.tuple #[((mget a L).map vv).getD ei.zero, .bool (mget a L).isSome]) := by
  intro ρ hρ w' hw'
  have hr := run_lookup' (P := P) (a := a) hT hk ht htd he (hM.ext (Cls.keeps (C := C) w' hw'))
  simp [execOp, hρ _ _ hx, hρ _ _ hy, hr]
theorem WL.lookup (hT : OkTab P T) (hk : KeyOk P kt kv) (hg : gate ops e g = some true) (hd : Nat.blt d N = true) (hx : ev e x = some (.map (some r))) (hy : ev e y = some (kv a)) (ht : tget T t = some ti) (htd : ti.desc = .map kt et) (he : tget T et = some ei) (hM : MapIs kv vv w r L)
    (k : WL P N ops.toArray l ((d, .tuple #[((mget a L).map vv).getD ei.zero, .bool (mget a L).isSome]) :: e) w Q) : WL P N ops.toArray (⟨some d, .lookup t x y true, tt, ps, af, g⟩ :: l) e w Q := WL.step hg hd (ylookup (C := Same w) hT hk hx hy ht htd he hM) k
theorem QL.lookup [Cls C w] (hT : OkTab P T) (hk : KeyOk P kt kv) (hg : gate ops e g = some true) (hd : Nat.blt d N = true) (hx : ev e x = some (.map (some r))) (hy : ev e y = some (kv a)) (ht : tget T t = some ti) (htd : ti.desc = .map kt et) (he : tget T et = some ei) (hM : MapIs kv vv w r L)
    (k : QL P N C ops.toArray l ((d, .tuple #[((mget a L).map vv).getD ei.zero, .bool (mget a L).isSome]) :: e) Q) : QL P N C ops.toArray (⟨some d, .lookup t x y true, tt, ps, af, g⟩ :: l) e Q := QL.step hg hd (ylookup hT hk hx hy ht htd he hM) k

theorem WL.lookupSome {v : ν} (hT : OkTab P T) (hk : KeyOk P kt kv) (hg : gate ops e g = some true) (hd : Nat.blt d N = true) (hx : ev e x = some (.map (some r))) (hy : ev e y = some (kv a)) (ht : tget T t = some ti) (htd : ti.desc = .map kt et) (he : tget T et = some ei) (hM : MapIs kv vv w r L) (hm : mget a L = some v)
    (k : WL P N ops.toArray l ((d, .tuple #[vv v, .bool true]) :: e) w Q) : WL P N ops.toArray (⟨some d, .lookup t x y true, tt, ps, af, g⟩ :: l) e w Q := WL.lookup hT hk hg hd hx hy ht htd he hM (by rw [hm]; exact k)
theorem WL.lookupNone (hT : OkTab P T) (hk : KeyOk P kt kv) (hg : gate ops e g = some true) (hd : Nat.blt d N = true) (hx : ev e x = some (.map (some r))) (hy : ev e y = some (kv a)) (ht : tget T t = some ti) (htd : ti.desc = .map kt et) (he : tget T et = some ei) (hM : MapIs kv vv w r L) (hm : mget a L = none)
    (k : WL P N ops.toArray l ((d, .tuple #[ei.zero, .bool false]) :: e) w Q) : WL P N ops.toArray (⟨some d, .lookup t x y true, tt, ps, af, g⟩ :: l) e w Q := WL.lookup hT hk hg hd hx hy ht htd he hM (by rw [hm]; exact k)
theorem QL.lookupSome [Cls C w] {v : ν} (hT : OkTab P T) (hk : KeyOk P kt kv) (hg : gate ops e g = some true) (hd : Nat.blt d N = true) (hx : ev e x = some (.map (some r))) (hy : ev e y = some (kv a)) (ht : tget T t = some ti) (htd : ti.desc = .map kt et) (he : tget T et = some ei) (hM : MapIs kv vv w r L) (hm : mget a L = some v)
    (k : QL P N C ops.toArray l ((d, .tuple #[vv v, .bool true]) :: e) Q) : QL P N C ops.toArray (⟨some d, .lookup t x y true, tt, ps, af, g⟩ :: l) e Q := QL.lookup hT hk hg hd hx hy ht htd he hM (by rw [hm]; exact k)
theorem QL.lookupNone [Cls C w] (hT : OkTab P T) (hk : KeyOk P kt kv) (hg : gate ops e g = some true) (hd : Nat.blt d N = true) (hx : ev e x = some (.map (some r))) (hy : ev e y = some (kv a)) (ht : tget T t = some ti) (htd : ti.desc = .map kt et) (he : tget T et = some ei) (hM : MapIs kv vv w r L) (hm : mget a L = none)
    (k : QL P N C ops.toArray l ((d, .tuple #[ei.zero, .bool false]) :: e) Q) : QL P N C ops.toArray (⟨some d, .lookup t x y true, tt, ps, af, g⟩ :: l) e Q := QL.lookup hT hk hg hd hx hy ht htd he hM (by rw [hm]; exact k)

/-- A new key. -/
theorem WL.mapNew {B : Nat} {w0 : World} (hT : OkTab P T) (hk : KeyOk P kt kv) (hg : gate ops e g = some true) (hx : ev e x = some (.map (some r))) (hy : ev e y = some (kv a)) (hz : ev e z = some (vv v)) (ht : tget T t = some ti) (htd : ti.desc = .map kt et) (hM : MapIs kv vv w r L) (hnew : mget a L = none) (hX : Ext w0 w) (hB : w0.heap.size ≤ r)
    (k : ∀ w', MapIs kv vv w' r (L ++ [(a, v)]) → Ext w0 w' → Upd r (some ⟨r, 0, none⟩) w w' → WL P N ops.toArray l e w' Q) :
    WL P N ops.toArray (⟨none, .mapUpdate t x y z, tt, ps, af, g⟩ :: l) e w Q := by
  obtain ⟨es, clock, h1, h2⟩ := hM
  have hlt := heap_lt h1
  refine WL.effN (w' := fun m => { at' w m with heap := w.heap.setIfInBounds r (.map (es.push { key := kv a, val := vv v, born := clock }) (clock + 1)) }) hg ?_ (fun m => ?_)
  · intro ρ hρ m
    have hu := run_underlying' (hT.at ht) (at' w m); rw [htd] at hu
    have hf := run_findKey' hk a (at' w m) h2
    have hg : (getObj r).run P (at' w m) = .ok (.map es clock) (at' w m) := by simp [getObj, Sem.run, h1]
    have hmg := mfind_get vv a L 0
    rw [hnew] at hmg
    have hmn : mfind vv a L 0 = none := by
      cases hm : mfind vv a L 0 with
      | none => rfl
      | some q => rw [hm] at hmg; simp at hmg
    rw [hmn] at hf
    have hset : (setObj r (.map (es.push { key := kv a, val := vv v, born := clock }) (clock + 1))).run P (at' w m) = .ok () { at' w m with heap := w.heap.setIfInBounds r (.map (es.push { key := kv a, val := vv v, born := clock }) (clock + 1)) } := by simp [setObj, Sem.run, h1]
    have hrun : (Instr.mapUpdate t (.map (some r)) (kv a) (vv v)).run P (at' w m) = .ok () { at' w m with heap := w.heap.setIfInBounds r (.map (es.push { key := kv a, val := vv v, born := clock }) (clock + 1)) } := by
      simp only [Instr.mapUpdate, Sem.run_bind, hu, Result.andThen_ok, hg, hk.chk, hf, hset]
    simp [execOp, hρ _ _ hx, hρ _ _ hy, hρ _ _ hz, hrun]
  · have hU : Upd r (some ⟨r, 0, none⟩) w { at' w m with heap := w.heap.setIfInBounds r (.map (es.push { key := kv a, val := vv v, born := clock }) (clock + 1)) } :=
      ⟨⟨rfl, rfl, rfl, by simp, fun q hq hne => by
        simp only [blk, Option.map_some, ne_eq, Option.some.injEq] at hne
        simp only [Array.getElem?_setIfInBounds]
        rw [if_neg (fun h => hne h.symm)]⟩, fun q hq => by simp only [blk, Option.map_some, Option.some.injEq] at hq; omega⟩
    refine k _ ⟨_, _, by simp [Array.getElem?_setIfInBounds, hlt]; exact ⟨rfl, rfl⟩, ?_⟩ (hU.ext hX hB) hU
    simp [h2]
end rules
end Go.Lt
