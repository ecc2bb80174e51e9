/- TriWords: the law. No conditions. -/
import Derived.Test.YtfkdlepemiepdaaWord
import Derived.Test.YtfkdlepemiepdaaLtTreeX
namespace Go.Proofs.Ytfkdlepemiepdaa
open Go Go.Lt Go.RowKit
set_option linter.unusedVariables false
set_option linter.unusedSimpArgs false

theorem getLsb_not (x : BitVec 64) (n : Nat) (h : n < 64) : (~~~x).getLsbD n = !x.getLsbD n := by simp [h]
abbrev W2c (a b : BitVec 64) : Array Value := #[u64 a, u64 b]
abbrev andA (a b c d : BitVec 64) : BitVec 64 := (a &&& ~~~ b) &&& (c &&& ~~~ d)
abbrev andZ (a b c d : BitVec 64) : BitVec 64 := (b &&& ~~~ a) ||| (d &&& ~~~ c)
abbrev allA (v : Int) : BitVec 64 := if v = 1 then 18446744073709551615#64 else 0#64
abbrev allZ (v : Int) : BitVec 64 := if v = 0 then 18446744073709551615#64 else 0#64

theorem at3_and (a b c d : BitVec 64) (i : Int) : at3 (andA a b c d) (andZ a b c d) i = and3 (at3 a b i) (at3 c d i) := by
  unfold at3
  by_cases h : i < 0 ∨ 63 < i
  · rw [if_pos h, if_pos h, if_pos h]; rfl
  · rw [if_neg h, if_neg h, if_neg h]
    have hn : i.toNat < 64 := by omega
    simp only [BitVec.getLsbD_and, BitVec.getLsbD_or, getLsb_not _ _ hn]
    generalize a.getLsbD i.toNat = p
    generalize b.getLsbD i.toNat = q
    generalize c.getLsbD i.toNat = r
    generalize d.getLsbD i.toNat = s
    cases p <;> cases q <;> cases r <;> cases s <;> rfl
theorem at3_not (a b : BitVec 64) (i : Int) : at3 (b &&& ~~~ a) (a &&& ~~~ b) i = not3 (at3 a b i) := by
  unfold at3
  by_cases h : i < 0 ∨ 63 < i
  · rw [if_pos h, if_pos h]; rfl
  · rw [if_neg h, if_neg h]
    have hn : i.toNat < 64 := by omega
    simp only [BitVec.getLsbD_and, getLsb_not _ _ hn]
    generalize a.getLsbD i.toNat = p
    generalize b.getLsbD i.toNat = q
    cases p <;> cases q <;> rfl
theorem at3_all (v i : Int) : at3 (allA v) (allZ v) i = if (v = 0 ∨ v = 1) ∧ 0 ≤ i ∧ i < 64 then v else 2 := by
  unfold at3
  by_cases h : i < 0 ∨ 63 < i
  · rw [if_pos h, if_neg (by omega)]
  · rw [if_neg h]
    have hn : i.toNat < 64 := by omega
    have ho : (18446744073709551615#64).getLsbD i.toNat = true := by
      rw [show (18446744073709551615#64) = ~~~ (0#64) from rfl, getLsb_not _ _ hn]; simp
    have hz : (0#64).getLsbD i.toNat = false := by simp
    by_cases h0 : v = 0
    · subst h0
      rw [show allA 0 = 0#64 from rfl, show allZ 0 = 18446744073709551615#64 from rfl, ho, hz]; show (0 : Int) = _; rw [if_pos (by omega)]
    · by_cases h1 : v = 1
      · subst h1
        rw [show allA 1 = 18446744073709551615#64 from rfl, show allZ 1 = 0#64 from rfl, ho, hz]; show (1 : Int) = _; rw [if_pos (by omega)]
      · rw [show allA v = 0#64 from if_neg h1, show allZ v = 0#64 from if_neg h0, hz]; show (2 : Int) = _; rw [if_neg (fun hh => by omega)]
theorem apart_and (a b c d : BitVec 64) : andA a b c d &&& andZ a b c d = 0#64 := by
  apply BitVec.eq_of_getLsbD_eq
  intro n hn
  simp only [BitVec.getLsbD_and, BitVec.getLsbD_or, getLsb_not _ _ hn]
  generalize a.getLsbD n = p; generalize b.getLsbD n = q; generalize c.getLsbD n = r; generalize d.getLsbD n = s
  rw [BitVec.getLsbD_zero]
  cases p <;> cases q <;> cases r <;> cases s <;> rfl
theorem apart_not (a b : BitVec 64) : (b &&& ~~~ a) &&& (a &&& ~~~ b) = 0#64 := by
  apply BitVec.eq_of_getLsbD_eq
  intro n hn
  simp only [BitVec.getLsbD_and, getLsb_not _ _ hn]
  generalize a.getLsbD n = p; generalize b.getLsbD n = q
  rw [BitVec.getLsbD_zero]
  cases p <;> cases q <;> rfl
theorem apart_all (v : Int) : allA v &&& allZ v = 0#64 := by
  unfold allA allZ
  by_cases h0 : v = 0
  · subst h0; rfl
  · rw [if_neg h0]; simp
theorem u64_zero {x y : BitVec 64} (h : x &&& y = 0#64) : ((x &&& y).toNat : Int) = 0 := by rw [h]; rfl

end Go.Proofs.Ytfkdlepemiepdaa
