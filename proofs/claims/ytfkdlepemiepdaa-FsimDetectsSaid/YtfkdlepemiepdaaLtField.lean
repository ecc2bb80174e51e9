/- A store into a field of an element of one's own row. Generic over the program. No conditions. -/
import Derived.Test.YtfkdlepemiepdaaLtOwn2
namespace Go.Lt
open Go.RowKit
set_option linter.unusedVariables false
set_option linter.unusedSimpArgs false
section
variable {P : Program} {T : Tab} {N : Nat} {e : Env} {w : World} {Q : Exit → Act → World → Prop} {ops : List Oper} {l : List Oper}
  {tt t el : TypeId} {ps : String} {af : Array Edge} {g : Option (Nat × Bool)} {α : Type} {s : Nat} {enc : α → List Value} {B : Nat} {ei : TI}
theorem take_set_le {β : Type} (L : List β) (k M : Nat) (v : β) (h : k < M) : (L.set k v).take M = (L.take M).set k v := by
  apply List.ext_getElem?
  intro i
  simp only [List.getElem?_take, List.getElem?_set, List.length_take]
  split <;> split <;> (try split) <;> (try rfl) <;> (try omega) <;> simp_all <;> omega
theorem WL.storeOF {x y : Operand} {gb q i cap : Nat} {v u : Value} {xs : List α} {z z' : α} {wo w0 : World} (p r : List Value) (hT : OkTab P T) (hg : gate ops e g = some true)
    (hx : ev e x = some (.pointer (some ⟨gb, q, none⟩))) (hy : ev e y = some v) (ht : tget T t = some ei)
    (ho : Own s enc el B wo (some ⟨gb, 0, none⟩) cap xs) (hwo : Ext wo w) (hq : q = i * s + p.length) (hzo : enc z = p ++ u :: r) (hzn : enc z' = p ++ v :: r) (hv : v.cells.toList = [v]) (hs : ei.size = 1) (hE : Enc s enc) (hz : xs[i]? = some z) (hB : w0.heap.size = B) (hX : Ext w0 w)
    (k : ∀ w', Own s enc el B w' (some ⟨gb, 0, none⟩) cap (xs.set i z') → Ext w0 w' → Upd B (some ⟨gb, 0, none⟩) w w' → WL P N ops.toArray l e w' Q) :
    WL P N ops.toArray (⟨none, .store t x y, tt, ps, af, g⟩ :: l) e w Q := by
  subst hq
  have hi : i < xs.length := (List.getElem?_eq_some_iff.1 hz).1
  have ho' := ho.ext hwo
  have hO := ho'
  rcases ho'.2 with ⟨h1, _⟩ | ⟨g', c', cur, h1, h2, h3, h4, h5, h6, h7⟩
  · simp at h1
  simp only [Value.slice.injEq, Option.some.injEq, Addr.mk.injEq, and_true, true_and] at h1
  obtain ⟨rfl, rfl⟩ := h1
  have hps : p.length < s := by have := hE.len z; rw [hzo] at this; simp at this; omega
  have hvs : v.cells.size = 1 := by have := congrArg List.length hv; simpa using this
  have hle : i * s + s ≤ xs.length * s := by rw [← Nat.succ_mul]; exact Nat.mul_le_mul_right s hi
  have hle2 : xs.length * s ≤ cap * s := Nat.mul_le_mul_right s h4
  have hone : ∀ u ∈ v.cells.toList, u.oneCell' = true := fun u hu => hE.one z' u (by rw [hv] at hu; rw [hzn]; simp at hu; subst hu; simp)
  refine WL.effN (w' := fun m => (at' w m).setRow gb (cur.toList.take (i * s + p.length) ++ v.cells.toList ++ cur.toList.drop (i * s + p.length + v.cells.size)).toArray) hg ?_ (fun m => ?_)
  · intro ρ hρ m
    have hr := run_storeVar' (hT.at ht) gb (i * s + p.length) el cur (at' w m) v h3 (hvs.trans hs.symm) (by rw [hvs, h6]; omega) hone
    simp [execOp, hρ _ _ hx, hρ _ _ hy, Instr.storeAt, Instr.sureAddr, hr]
  · have hU : Upd B (some ⟨gb, 0, none⟩) w ((at' w m).setRow gb (cur.toList.take (i * s + p.length) ++ v.cells.toList ++ cur.toList.drop (i * s + p.length + v.cells.size)).toArray) :=
      ⟨⟨rfl, rfl, rfl, by simp [World.setRow], fun k hk hne => setRow_other (at' w m) gb k _ (fun hh => hne (by rw [hh]; rfl))⟩, fun k hk => (hO.blk_lt k hk).1⟩
    refine k _ ?_ (hU.ext hX (Nat.le_of_eq hB)) hU
    have h8 : cur.toList.length = cap * s := by simpa using h6
    have hcl : i * s + p.length < cur.toList.length := by omega
    have hset : cur.toList.take (i * s + p.length) ++ v.cells.toList ++ cur.toList.drop (i * s + p.length + v.cells.size) = cur.toList.set (i * s + p.length) v := by
      rw [hv, hvs, List.set_eq_take_append_cons_drop, if_pos hcl]; simp
    refine ⟨by rw [length_flatMap' hE.len], .inr ⟨gb, cap, _, rfl, h2, setRow_heap (at' w m) gb cur _ el _ h3, by simpa using h4, h5, ?_, ?_⟩⟩
    · rw [hset]; simp [h6]
    · simp only [List.length_set]
      rw [hset, take_set_le _ _ _ _ (by omega), h7]
      exact set_flatMap' hE.len xs i z z' hz p r u v hzo hzn
end
end Go.Lt
