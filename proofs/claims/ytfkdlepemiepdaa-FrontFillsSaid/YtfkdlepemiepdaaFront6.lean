/- Where no gate is open, any values of the open inputs are a model: the law FrontFills, its plain part. No conditions. -/
import Derived.Test.YtfkdlepemiepdaaFront5
import Derived.Test.YtfkdlepemiepdaaImp5
import Derived.Test.YtfkdlepemiepdaaVals
namespace Go.Proofs.Ytfkdlepemiepdaa
open Go Go.Lt Go.RowKit
set_option linter.unusedVariables false
set_option linter.unusedSimpArgs false

def fillB (n : List (Int × Int)) (out : List Int) (ins : List Bool) (k : Nat) : Bool :=
  if out.getD (k + 1) 0 = 1 then true else if out.getD (k + 1) 0 = 2 then ins.getD (cnt n k) false else false
noncomputable abbrev fullV (n : List (Int × Int)) (out : List Int) (ins : List Bool) (k : Nat) : List Bool := insTo n (fillB n out ins) k
/-- What out tells of a variable holds of M. -/
def AG (out : List Int) (M : List Bool) (u : Nat) : Prop := (out.getD u 0 = 0 → M.getD u false = false) ∧ (out.getD u 0 = 1 → M.getD u false = true)
theorem AG.lit {m : Nat} {out : List Int} {M : List Bool} (hk : OkV (m + 1) out) {x : Int} (h : AG out M (x / 2).toNat) (h0 : 0 ≤ x ∧ x ≤ 2 * (m : Int) + 1) (hm : m ≤ 1048576) :
    (lit3 out x = 0 → ofL M x = false) ∧ (lit3 out x = 1 → ofL M x = true) ∧ (lit3 out x = 0 ∨ lit3 out x = 1 ∨ lit3 out x = 2) := by
  have hlt : (x / 2).toNat < out.length := by rw [hk.len]; omega
  obtain ⟨z, hz⟩ := getI out hlt
  have hz3 := hk.three _ _ hz
  obtain ⟨h1, h2⟩ := h
  rw [getD_of hz] at h1 h2
  rw [lit3_tl hk.head h0.1 hlt (by omega)]
  unfold tl ofL
  rw [getD_of hz]
  by_cases hp : x % 2 = 1
  · rw [if_pos hp]
    rcases hz3 with rfl | rfl | rfl
    · rw [h1 rfl]; simp [not3, val3, hp]
    · rw [h2 rfl]; simp [not3, val3, hp]
    · simp [not3, val3]
  · rw [if_neg hp]
    rcases hz3 with rfl | rfl | rfl
    · rw [h1 rfl]; simp [val3, hp]
    · rw [h2 rfl]; simp [val3, hp]
    · simp [val3]
theorem closed_all {n : List (Int × Int)} {out : List Int} (h : ¬ 0 < (opens n out).length) : ∀ {k : Nat} {x : Int × Int}, n[k]? = some x → ¬ openG out ((k : Int) + 1) x := by
  intro k x hx ho
  have hk := lt_of_get hx
  have hm : ((k + 1 : Nat) : Int) ∈ opens n out := by
    unfold opens opTo
    exact sel_mem.2 ⟨k + 1, rfl, by omega, ⟨by omega, x, by simpa using hx, by simpa using ho⟩⟩
  exact h (List.length_pos_of_mem hm)
theorem fills {n : List (Int × Int)} {out : List Int} {ins : List Bool} (hg : GoodNet n) (hn : n.length ≤ 1048576) (hk : OkV (n.length + 1) out) (hc : ¬ 0 < (opens n out).length) : ∀ u, u ≤ n.length → AG out (values n (fullV n out ins n.length)) u := by
  intro u
  induction u using Nat.strongRecOn with
  | ind u ih =>
    intro hu
    match u, ih, hu with
    | 0, _, _ => exact ⟨fun _ => values_zero _ _, fun h => by rw [hk.head] at h; cases h⟩
    | k + 1, ih, hu =>
      obtain ⟨x, hx⟩ := getI n (show k < n.length by omega)
      by_cases hi : x.1 < 0
      · have e : (values n (fullV n out ins n.length)).getD (k + 1) false = fillB n out ins k := by
          rw [values_in _ hx hi, getD_of (insTo_get (fillB n out ins) hx hi (show k < n.length by omega))]
        unfold AG
        rw [e]
        unfold fillB
        refine ⟨fun h => ?_, fun h => ?_⟩
        · rw [h]; rfl
        · rw [if_pos h]
      · have hgx := hg.gate hx (by omega)
        have e := values_gate hg (fullV n out ins n.length) hx (by omega)
        have A1 := (ih (x.1 / 2).toNat (by omega) (by omega)).lit hk (x := x.1) (by omega) hn
        have A2 := (ih (x.2 / 2).toNat (by omega) (by omega)).lit hk (x := x.2) (by omega) hn
        have hno := closed_all hc hx
        have hlt : k + 1 < out.length := by rw [hk.len]; omega
        obtain ⟨z, hz⟩ := getI out hlt
        have hz3 := hk.three _ _ hz
        have e2 : lit3 out (2 * ((k : Int) + 1)) = val3 z := by
          rw [lit3_tl hk.head (by omega) (by rw [hk.len]; omega) (by omega)]
          unfold tl
          rw [if_neg (by omega), show (2 * ((k : Int) + 1) / 2).toNat = k + 1 by omega, getD_of hz]
        unfold AG
        rw [e, getD_of hz]
        refine ⟨fun h => ?_, fun h => ?_⟩
        · subst h
          by_cases q1 : lit3 out x.1 = 0
          · rw [A1.1 q1]; rfl
          · by_cases q2 : lit3 out x.2 = 0
            · rw [A2.1 q2, Bool.and_false]
            · exact absurd ⟨by omega, .inl ⟨e2, q1, q2⟩⟩ hno
        · subst h
          by_cases q : lit3 out x.1 = 1 ∧ lit3 out x.2 = 1
          · rw [A1.2.1 q.1, A2.2.1 q.2]; rfl
          · exact absurd ⟨by omega, .inr ⟨e2, q⟩⟩ hno
theorem goodC_one {m : Nat} {out : List Int} (hk : OkV (m + 1) out) (hm : m ≤ 1048576) {x : Int} (h0 : 0 ≤ x ∧ x ≤ 2 * (m : Int) + 1) (h : goodC out [x]) : lit3 out x = 1 := by
  have hlt : (x / 2).toNat < out.length := by rw [hk.len]; omega
  obtain ⟨z, hz⟩ := getI out hlt
  have hz3 := hk.three _ _ hz
  have hg : goodL x := ⟨h0.1, by omega⟩
  obtain ⟨h1, h2⟩ := h
  have e := lit3_tl hk.head h0.1 hlt hg.2
  unfold tl at e
  rw [getD_of hz] at e
  have h012 : lit3 out x = 0 ∨ lit3 out x = 1 ∨ lit3 out x = 2 := by
    rw [e]
    rcases hz3 with rfl | rfl | rfl <;> split <;> simp [not3, val3]
  rcases h012 with h3 | h3 | h3
  · exact absurd (by rw [vC, if_neg (by omega), if_neg (by omega), vC]) h1
  · exact h3
  · exfalso
    rw [uC, if_neg (fun hh => hh.elim (fun h4 => by omega) (fun h4 => h4.2.elim (fun h5 => h5 hg) (fun h5 => absurd h5.1 (by decide)))), if_pos h3, uC] at h2
    have hx : (x / 2).toNat = 0 := by omega
    rw [hx] at hz
    have := getD_of (d := (0 : Int)) hz
    rw [hk.head] at this
    subst this
    rw [e] at h3
    split at h3 <;> simp [not3, val3] at h3
end Go.Proofs.Ytfkdlepemiepdaa
