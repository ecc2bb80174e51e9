/- Regions walked along a tree, where a block of variables stays as it is. Generic over the program. No conditions. -/
import Derived.Test.YtfkdlepemiepdaaLtTreeX
namespace Go.Lt
open Go.RowKit
set_option linter.unusedVariables false
set_option linter.unusedSimpArgs false

/-- The block g holds these cells. -/
abbrev CellC (g : Nat) (cs : Array Value) (t : Nat) (w : World) : Prop := w.heap[g]? = some (.cells cs t (0, 0))
section
variable {P : Program} {T : Tab} {N d : Nat} {e : Env} {w : World} {ops l : List Oper} {Kf : Act → Prop} {tt t ty ct : TypeId} {ps : String} {af : Array Edge} {g : Option (Nat × Bool)} {x y : Operand}
theorem FL.loadC {gb off : Nat} {cs : Array Value} {v : Value} {i : TI} (hT : OkTab P T) (hg : gate ops e g = some true) (hd : Nat.blt d N = true) (hx : ev e x = some (.pointer (some ⟨gb, off, none⟩))) (ht : tget T t = some i) (ha : isAggD i.desc = false) (hv : cs[off]? = some v)
    (k : FL P N ops.toArray (CellC gb cs ct) l ((d, v) :: e) w Kf) : FL P N ops.toArray (CellC gb cs ct) (⟨some d, .load t x, tt, ps, af, g⟩ :: l) e w Kf := by
  refine FL.step hg hd ?_ k
  intro ρ hρ w' hw'
  have h1 := run_isAgg' (hT.at ht); rw [ha] at h1
  have h2 : w'.cell? ⟨gb, off, none⟩ = some v := by
    have hc := cells_heap hw'
    have key : ∀ (l : List Value) (o q : Nat) (u : Value), Cells w' gb o l → l[q]? = some u → w'.cell? ⟨gb, o + q, none⟩ = some u := by
      intro l
      induction l with
      | nil => intro o q u _ h; simp at h
      | cons a r ih =>
        intro o q u hl h
        obtain ⟨h3, h4⟩ := hl
        cases q with
        | zero => simp at h; subst h; exact h3
        | succ q =>
          have := ih (o + 1) q u h4 (by simpa using h)
          rw [show o + (q + 1) = o + 1 + q by omega]; exact this
    have := key _ 0 off v hc (by simpa using hv)
    simpa using this
  simp [execOp, hρ _ _ hx, Instr.loadAt, Instr.sureAddr, loadVar, h1, h2]
end
end Go.Lt
