/- Words of 64 bits: uint64 as BitVec 64. Generic over the program. No conditions. -/
import Derived.Test.YtfkdlepemiepdaaLtMore
namespace Go.Lt
open Go.RowKit
set_option linter.unusedVariables false
set_option linter.unusedSimpArgs false

/-- A word as a value. -/
abbrev u64 (x : BitVec 64) : Value := .int .u64 (x.toNat : Int)
abbrev encV : BitVec 64 → List Value := fun x => [u64 x]
theorem encV_ok : Enc 1 encV := ⟨fun _ => rfl, fun x u hu => by simp at hu; subst hu; rfl, by decide⟩
abbrev encP : BitVec 64 × BitVec 64 → List Value := fun x => [u64 x.1, u64 x.2]
theorem encP_ok : Enc 2 encP := ⟨fun _ => rfl, fun x u hu => by simp at hu; rcases hu with rfl | rfl <;> rfl, by decide⟩

theorem ofInt_toNat (x : BitVec 64) : BitVec.ofInt 64 (x.toNat : Int) = x := by
  apply BitVec.eq_of_toNat_eq
  rw [BitVec.toNat_ofInt]
  have := x.isLt
  omega
theorem wrap_u64_toNat (x : BitVec 64) : IntKind.u64.wrap (x.toNat : Int) = x.toNat := by
  have := x.isLt
  exact IntWalk.u64_in _ (by omega)
theorem cast64 : ((2 ^ 64 : Nat) : Int) = 18446744073709551616 := by decide
theorem u64_lit (a : Int) (h : 0 ≤ a ∧ a < 18446744073709551616) : a = ((BitVec.ofInt 64 a).toNat : Int) := by
  rw [BitVec.toNat_ofInt]; omega

section
variable {P : Program} {e : Env} {dd : Option Tmp} {t ty tt : TypeId} {x y : Operand} {ps : String} {af : Array Edge} {g : Option (Nat × Bool)} {a b : Int} {u v : BitVec 64}

theorem uand (hx : ev e x = some (.int .u64 a)) (hy : ev e y = some (.int .u64 b)) (ha : a = (u.toNat : Int)) (hb : b = (v.toNat : Int)) : Yields P e ⟨dd, .binOp .and t x y ty, tt, ps, af, g⟩ (u64 (u &&& v)) := by
  subst ha; subst hb
  have := Yields.bin (P := P) (d := dd) (op := .and) (t := t) (ty := ty) (tt := tt) (ps := ps) (af := af) (g := g) hx hy rfl
  have e1 : IntKind.u64.wrap (BitVec.ofInt IntKind.u64.bits (u.toNat : Int) &&& BitVec.ofInt IntKind.u64.bits (v.toNat : Int)).toNat = (u &&& v).toNat := by
    show IntKind.u64.wrap (BitVec.ofInt 64 (u.toNat : Int) &&& BitVec.ofInt 64 (v.toNat : Int)).toNat = _
    rw [ofInt_toNat, ofInt_toNat, wrap_u64_toNat]
  rwa [e1] at this
theorem uor (hx : ev e x = some (.int .u64 a)) (hy : ev e y = some (.int .u64 b)) (ha : a = (u.toNat : Int)) (hb : b = (v.toNat : Int)) : Yields P e ⟨dd, .binOp .or t x y ty, tt, ps, af, g⟩ (u64 (u ||| v)) := by
  subst ha; subst hb
  have := Yields.bin (P := P) (d := dd) (op := .or) (t := t) (ty := ty) (tt := tt) (ps := ps) (af := af) (g := g) hx hy rfl
  have e1 : IntKind.u64.wrap (BitVec.ofInt IntKind.u64.bits (u.toNat : Int) ||| BitVec.ofInt IntKind.u64.bits (v.toNat : Int)).toNat = (u ||| v).toNat := by
    show IntKind.u64.wrap (BitVec.ofInt 64 (u.toNat : Int) ||| BitVec.ofInt 64 (v.toNat : Int)).toNat = _
    rw [ofInt_toNat, ofInt_toNat, wrap_u64_toNat]
  rwa [e1] at this
theorem uxor (hx : ev e x = some (.int .u64 a)) (hy : ev e y = some (.int .u64 b)) (ha : a = (u.toNat : Int)) (hb : b = (v.toNat : Int)) : Yields P e ⟨dd, .binOp .xor t x y ty, tt, ps, af, g⟩ (u64 (u ^^^ v)) := by
  subst ha; subst hb
  have := Yields.bin (P := P) (d := dd) (op := .xor) (t := t) (ty := ty) (tt := tt) (ps := ps) (af := af) (g := g) hx hy rfl
  have e1 : IntKind.u64.wrap (BitVec.ofInt IntKind.u64.bits (u.toNat : Int) ^^^ BitVec.ofInt IntKind.u64.bits (v.toNat : Int)).toNat = (u ^^^ v).toNat := by
    show IntKind.u64.wrap (BitVec.ofInt 64 (u.toNat : Int) ^^^ BitVec.ofInt 64 (v.toNat : Int)).toNat = _
    rw [ofInt_toNat, ofInt_toNat, wrap_u64_toNat]
  rwa [e1] at this
theorem uandn (hx : ev e x = some (.int .u64 a)) (hy : ev e y = some (.int .u64 b)) (ha : a = (u.toNat : Int)) (hb : b = (v.toNat : Int)) : Yields P e ⟨dd, .binOp .andNot t x y ty, tt, ps, af, g⟩ (u64 (u &&& ~~~ v)) := by
  subst ha; subst hb
  have := Yields.bin (P := P) (d := dd) (op := .andNot) (t := t) (ty := ty) (tt := tt) (ps := ps) (af := af) (g := g) hx hy rfl
  have e1 : IntKind.u64.wrap (BitVec.ofInt IntKind.u64.bits (u.toNat : Int) &&& ~~~ BitVec.ofInt IntKind.u64.bits (v.toNat : Int)).toNat = (u &&& ~~~ v).toNat := by
    show IntKind.u64.wrap (BitVec.ofInt 64 (u.toNat : Int) &&& ~~~ BitVec.ofInt 64 (v.toNat : Int)).toNat = _
    rw [ofInt_toNat, ofInt_toNat, wrap_u64_toNat]
  rwa [e1] at this
theorem uadd (hx : ev e x = some (.int .u64 a)) (hy : ev e y = some (.int .u64 b)) (ha : a = (u.toNat : Int)) (hb : b = (v.toNat : Int)) : Yields P e ⟨dd, .binOp .add t x y ty, tt, ps, af, g⟩ (u64 (u + v)) := by
  subst ha; subst hb
  have := Yields.bin (P := P) (d := dd) (op := .add) (t := t) (ty := ty) (tt := tt) (ps := ps) (af := af) (g := g) hx hy rfl
  have e1 : IntKind.u64.wrap ((u.toNat : Int) + v.toNat) = (u + v).toNat := by
    rw [IntKind.wrap_u64, BitVec.toNat_add]; omega
  rwa [e1] at this
theorem umul (hx : ev e x = some (.int .u64 a)) (hy : ev e y = some (.int .u64 b)) (ha : a = (u.toNat : Int)) (hb : b = (v.toNat : Int)) : Yields P e ⟨dd, .binOp .mul t x y ty, tt, ps, af, g⟩ (u64 (u * v)) := by
  subst ha; subst hb
  have := Yields.bin (P := P) (d := dd) (op := .mul) (t := t) (ty := ty) (tt := tt) (ps := ps) (af := af) (g := g) hx hy rfl
  have e1 : IntKind.u64.wrap ((u.toNat : Int) * v.toNat) = (u * v).toNat := by
    rw [IntKind.wrap_u64, BitVec.toNat_mul, Int.natCast_emod, Int.natCast_mul, cast64]
  rwa [e1] at this
theorem uquo (hx : ev e x = some (.int .u64 a)) (hy : ev e y = some (.int .u64 b)) (ha : a = (u.toNat : Int)) (hb : b = (v.toNat : Int)) (hv : b ≠ 0) : Yields P e ⟨dd, .binOp .quo t x y ty, tt, ps, af, g⟩ (u64 (u / v)) := by
  subst ha; subst hb
  have := ydiv (P := P) (dd := dd) (op := .quo) (t := t) (ty := ty) (tt := tt) (ps := ps) (af := af) (g := g) hx hy hv (.inl ⟨rfl, rfl⟩)
  have e1 : IntKind.u64.wrap ((u.toNat : Int).tdiv v.toNat) = (u / v).toNat := by
    rw [BitVec.toNat_udiv, show (u.toNat : Int).tdiv (v.toNat : Int) = ((u.toNat / v.toNat : Nat) : Int) from rfl]
    have h1 := u.isLt
    have h2 := Nat.div_le_self u.toNat v.toNat
    have h3 : u.toNat / v.toNat ≤ 18446744073709551615 := by omega
    exact IntWalk.u64_in _ ⟨Int.natCast_nonneg _, Int.ofNat_le.2 h3⟩
  rwa [e1] at this
theorem urem (hx : ev e x = some (.int .u64 a)) (hy : ev e y = some (.int .u64 b)) (ha : a = (u.toNat : Int)) (hb : b = (v.toNat : Int)) (hv : b ≠ 0) : Yields P e ⟨dd, .binOp .rem t x y ty, tt, ps, af, g⟩ (u64 (u % v)) := by
  subst ha; subst hb
  have := ydiv (P := P) (dd := dd) (op := .rem) (t := t) (ty := ty) (tt := tt) (ps := ps) (af := af) (g := g) hx hy hv (.inr ⟨rfl, rfl⟩)
  rwa [show (u.toNat : Int).tmod (v.toNat : Int) = ((u % v).toNat : Int) by rw [BitVec.toNat_umod]; rfl] at this
theorem ushr {j : IntKind} (hx : ev e x = some (.int .u64 a)) (hy : ev e y = some (.int j b)) (ha : a = (u.toNat : Int)) (hb : 0 ≤ b) : Yields P e ⟨dd, .binOp .shr t x y ty, tt, ps, af, g⟩ (u64 (u >>> b.toNat)) := by
  subst ha
  intro ρ hρ w
  have hneg : ¬ (b < 0) := by omega
  have hrun : (binOp .shr t (.int .u64 (u.toNat : Int)) (.int j b)).run P w = .ok (u64 (u >>> b.toNat)) w := by
    simp only [binOp, Op.shift, hneg, if_false, Sem.run_pure]
    congr 2
    rw [Int.fdiv_eq_ediv_of_nonneg _ (Int.pow_nonneg (by omega)), BitVec.toNat_ushiftRight, Nat.shiftRight_eq_div_pow]
    by_cases h : b.toNat ≤ 64
    · rw [Nat.min_eq_left (by exact h)]; norm_cast
    · have h1 : min b.toNat IntKind.u64.bits = 64 := Nat.min_eq_right (by show 64 ≤ _; omega)
      rw [h1]
      have h2 := u.isLt
      have h3 : u.toNat / 2 ^ b.toNat = 0 := Nat.div_eq_of_lt (Nat.lt_of_lt_of_le h2 (Nat.pow_le_pow_right (by decide) (by omega)))
      rw [h3]
      have : ((u.toNat : Int) / 2 ^ 64) = 0 := by omega
      rw [this]; rfl
  simp [execOp, hρ _ _ hx, hρ _ _ hy, eqGuard_int, hrun]
theorem ushl {j : IntKind} (hx : ev e x = some (.int .u64 a)) (hy : ev e y = some (.int j b)) (ha : a = (u.toNat : Int)) (hb : 0 ≤ b) : Yields P e ⟨dd, .binOp .shl t x y ty, tt, ps, af, g⟩ (u64 (u <<< b.toNat)) := by
  subst ha
  intro ρ hρ w
  have hneg : ¬ (b < 0) := by omega
  have hrun : (binOp .shl t (.int .u64 (u.toNat : Int)) (.int j b)).run P w = .ok (u64 (u <<< b.toNat)) w := by
    simp only [binOp, Op.shift, hneg, if_false, Sem.run_pure]
    congr 2
    rw [IntKind.wrap_u64, BitVec.toNat_shiftLeft, Nat.shiftLeft_eq]
    by_cases h : b.toNat ≤ 64
    · rw [Nat.min_eq_left (by exact h), Int.natCast_emod, Int.natCast_mul, cast64, Int.natCast_pow]; rfl
    · have h1 : min b.toNat IntKind.u64.bits = 64 := Nat.min_eq_right (by show 64 ≤ _; omega)
      rw [h1]
      obtain ⟨q, hq⟩ : ∃ q, b.toNat = 64 + q := ⟨b.toNat - 64, by omega⟩
      rw [hq, Nat.pow_add]
      have h4 : u.toNat * (2 ^ 64 * 2 ^ q) % 2 ^ 64 = 0 := by
        rw [show u.toNat * (2 ^ 64 * 2 ^ q) = 2 ^ 64 * (u.toNat * 2 ^ q) by rw [Nat.mul_left_comm]]
        exact Nat.mul_mod_right _ _
      rw [h4]
      have : ((u.toNat : Int) * 2 ^ 64) % 18446744073709551616 = 0 := by
        rw [show ((2 : Int) ^ 64) = 18446744073709551616 by decide]; exact Int.mul_emod_left _ _
      rw [this]; rfl
  simp [execOp, hρ _ _ hx, hρ _ _ hy, eqGuard_int, hrun]
theorem unot (hx : ev e x = some (.int .u64 a)) (ha : a = (u.toNat : Int)) : Yields P e ⟨dd, .unOp .xor t x, tt, ps, af, g⟩ (u64 (~~~ u)) := by
  subst ha
  intro ρ hρ w
  have e1 : IntKind.u64.wrap (BitVec.ofInt IntKind.u64.bits IntKind.u64.max ^^^ BitVec.ofInt IntKind.u64.bits (u.toNat : Int)).toNat = (~~~ u).toNat := by
    show IntKind.u64.wrap (BitVec.ofInt 64 IntKind.u64.max ^^^ BitVec.ofInt 64 (u.toNat : Int)).toNat = _
    have h1 : BitVec.ofInt 64 IntKind.u64.max = BitVec.allOnes 64 := by decide
    rw [ofInt_toNat, wrap_u64_toNat, h1, BitVec.allOnes_xor]
  have hrun : (Op.unary .xor (.int .u64 (u.toNat : Int))).run P w = .ok (u64 (~~~ u)) w := by
    simp only [Op.unary, Op.intBits, IntKind.signed, Sem.run_pure, Bool.false_eq_true, if_false]
    rw [e1]
  simp [execOp, hρ _ _ hx, hrun]
end
section rules
variable {P : Program} {N : Nat} {e : Env} {w : World} {Q : Exit → Act → World → Prop} {K : Act → World → Prop} {C : World → Prop} {ops : List Oper} {l : List Oper} {T : Tab}
  {d : Nat} {tt ty : TypeId} {ps : String} {af : Array Edge} {g : Option (Nat × Bool)} {t : TypeId} {x y : Operand} {a b : Int} {u v : BitVec 64} {j : IntKind}
theorem WL.uand (hg : gate ops e g = some true) (hd : Nat.blt d N = true) (hx : ev e x = some (.int .u64 a)) (hy : ev e y = some (.int .u64 b)) (ha : a = (u.toNat : Int)) (hb : b = (v.toNat : Int)) (k : WL P N ops.toArray l ((d, u64 (u &&& v)) :: e) w Q) : WL P N ops.toArray (⟨some d, .binOp .and t x y ty, tt, ps, af, g⟩ :: l) e w Q := WL.step hg hd (Lt.uand hx hy ha hb).in k
theorem WL.uor (hg : gate ops e g = some true) (hd : Nat.blt d N = true) (hx : ev e x = some (.int .u64 a)) (hy : ev e y = some (.int .u64 b)) (ha : a = (u.toNat : Int)) (hb : b = (v.toNat : Int)) (k : WL P N ops.toArray l ((d, u64 (u ||| v)) :: e) w Q) : WL P N ops.toArray (⟨some d, .binOp .or t x y ty, tt, ps, af, g⟩ :: l) e w Q := WL.step hg hd (Lt.uor hx hy ha hb).in k
theorem WL.uxor (hg : gate ops e g = some true) (hd : Nat.blt d N = true) (hx : ev e x = some (.int .u64 a)) (hy : ev e y = some (.int .u64 b)) (ha : a = (u.toNat : Int)) (hb : b = (v.toNat : Int)) (k : WL P N ops.toArray l ((d, u64 (u ^^^ v)) :: e) w Q) : WL P N ops.toArray (⟨some d, .binOp .xor t x y ty, tt, ps, af, g⟩ :: l) e w Q := WL.step hg hd (Lt.uxor hx hy ha hb).in k
theorem WL.uandn (hg : gate ops e g = some true) (hd : Nat.blt d N = true) (hx : ev e x = some (.int .u64 a)) (hy : ev e y = some (.int .u64 b)) (ha : a = (u.toNat : Int)) (hb : b = (v.toNat : Int)) (k : WL P N ops.toArray l ((d, u64 (u &&& ~~~ v)) :: e) w Q) : WL P N ops.toArray (⟨some d, .binOp .andNot t x y ty, tt, ps, af, g⟩ :: l) e w Q := WL.step hg hd (Lt.uandn hx hy ha hb).in k
theorem WL.uadd (hg : gate ops e g = some true) (hd : Nat.blt d N = true) (hx : ev e x = some (.int .u64 a)) (hy : ev e y = some (.int .u64 b)) (ha : a = (u.toNat : Int)) (hb : b = (v.toNat : Int)) (k : WL P N ops.toArray l ((d, u64 (u + v)) :: e) w Q) : WL P N ops.toArray (⟨some d, .binOp .add t x y ty, tt, ps, af, g⟩ :: l) e w Q := WL.step hg hd (Lt.uadd hx hy ha hb).in k
theorem WL.umul (hg : gate ops e g = some true) (hd : Nat.blt d N = true) (hx : ev e x = some (.int .u64 a)) (hy : ev e y = some (.int .u64 b)) (ha : a = (u.toNat : Int)) (hb : b = (v.toNat : Int)) (k : WL P N ops.toArray l ((d, u64 (u * v)) :: e) w Q) : WL P N ops.toArray (⟨some d, .binOp .mul t x y ty, tt, ps, af, g⟩ :: l) e w Q := WL.step hg hd (Lt.umul hx hy ha hb).in k
theorem WL.uquo (hg : gate ops e g = some true) (hd : Nat.blt d N = true) (hx : ev e x = some (.int .u64 a)) (hy : ev e y = some (.int .u64 b)) (ha : a = (u.toNat : Int)) (hb : b = (v.toNat : Int)) (hv : b ≠ 0) (k : WL P N ops.toArray l ((d, u64 (u / v)) :: e) w Q) : WL P N ops.toArray (⟨some d, .binOp .quo t x y ty, tt, ps, af, g⟩ :: l) e w Q := WL.step hg hd (Lt.uquo hx hy ha hb hv).in k
theorem WL.urem (hg : gate ops e g = some true) (hd : Nat.blt d N = true) (hx : ev e x = some (.int .u64 a)) (hy : ev e y = some (.int .u64 b)) (ha : a = (u.toNat : Int)) (hb : b = (v.toNat : Int)) (hv : b ≠ 0) (k : WL P N ops.toArray l ((d, u64 (u % v)) :: e) w Q) : WL P N ops.toArray (⟨some d, .binOp .rem t x y ty, tt, ps, af, g⟩ :: l) e w Q := WL.step hg hd (Lt.urem hx hy ha hb hv).in k
theorem WL.ushr (hg : gate ops e g = some true) (hd : Nat.blt d N = true) (hx : ev e x = some (.int .u64 a)) (hy : ev e y = some (.int j b)) (ha : a = (u.toNat : Int)) (hb : 0 ≤ b) (k : WL P N ops.toArray l ((d, u64 (u >>> b.toNat)) :: e) w Q) : WL P N ops.toArray (⟨some d, .binOp .shr t x y ty, tt, ps, af, g⟩ :: l) e w Q := WL.step hg hd (Lt.ushr hx hy ha hb).in k
theorem WL.ushl (hg : gate ops e g = some true) (hd : Nat.blt d N = true) (hx : ev e x = some (.int .u64 a)) (hy : ev e y = some (.int j b)) (ha : a = (u.toNat : Int)) (hb : 0 ≤ b) (k : WL P N ops.toArray l ((d, u64 (u <<< b.toNat)) :: e) w Q) : WL P N ops.toArray (⟨some d, .binOp .shl t x y ty, tt, ps, af, g⟩ :: l) e w Q := WL.step hg hd (Lt.ushl hx hy ha hb).in k
theorem WL.unot (hg : gate ops e g = some true) (hd : Nat.blt d N = true) (hx : ev e x = some (.int .u64 a)) (ha : a = (u.toNat : Int)) (k : WL P N ops.toArray l ((d, u64 (~~~ u)) :: e) w Q) : WL P N ops.toArray (⟨some d, .unOp .xor t x, tt, ps, af, g⟩ :: l) e w Q := WL.step hg hd (Lt.unot hx ha).in k
theorem QL.uand (hg : gate ops e g = some true) (hd : Nat.blt d N = true) (hx : ev e x = some (.int .u64 a)) (hy : ev e y = some (.int .u64 b)) (ha : a = (u.toNat : Int)) (hb : b = (v.toNat : Int)) (k : QL P N C ops.toArray l ((d, u64 (u &&& v)) :: e) Q) : QL P N C ops.toArray (⟨some d, .binOp .and t x y ty, tt, ps, af, g⟩ :: l) e Q := QL.step hg hd (Lt.uand hx hy ha hb).in k
theorem QL.uor (hg : gate ops e g = some true) (hd : Nat.blt d N = true) (hx : ev e x = some (.int .u64 a)) (hy : ev e y = some (.int .u64 b)) (ha : a = (u.toNat : Int)) (hb : b = (v.toNat : Int)) (k : QL P N C ops.toArray l ((d, u64 (u ||| v)) :: e) Q) : QL P N C ops.toArray (⟨some d, .binOp .or t x y ty, tt, ps, af, g⟩ :: l) e Q := QL.step hg hd (Lt.uor hx hy ha hb).in k
theorem QL.uxor (hg : gate ops e g = some true) (hd : Nat.blt d N = true) (hx : ev e x = some (.int .u64 a)) (hy : ev e y = some (.int .u64 b)) (ha : a = (u.toNat : Int)) (hb : b = (v.toNat : Int)) (k : QL P N C ops.toArray l ((d, u64 (u ^^^ v)) :: e) Q) : QL P N C ops.toArray (⟨some d, .binOp .xor t x y ty, tt, ps, af, g⟩ :: l) e Q := QL.step hg hd (Lt.uxor hx hy ha hb).in k
theorem QL.uandn (hg : gate ops e g = some true) (hd : Nat.blt d N = true) (hx : ev e x = some (.int .u64 a)) (hy : ev e y = some (.int .u64 b)) (ha : a = (u.toNat : Int)) (hb : b = (v.toNat : Int)) (k : QL P N C ops.toArray l ((d, u64 (u &&& ~~~ v)) :: e) Q) : QL P N C ops.toArray (⟨some d, .binOp .andNot t x y ty, tt, ps, af, g⟩ :: l) e Q := QL.step hg hd (Lt.uandn hx hy ha hb).in k
theorem QL.uadd (hg : gate ops e g = some true) (hd : Nat.blt d N = true) (hx : ev e x = some (.int .u64 a)) (hy : ev e y = some (.int .u64 b)) (ha : a = (u.toNat : Int)) (hb : b = (v.toNat : Int)) (k : QL P N C ops.toArray l ((d, u64 (u + v)) :: e) Q) : QL P N C ops.toArray (⟨some d, .binOp .add t x y ty, tt, ps, af, g⟩ :: l) e Q := QL.step hg hd (Lt.uadd hx hy ha hb).in k
theorem QL.umul (hg : gate ops e g = some true) (hd : Nat.blt d N = true) (hx : ev e x = some (.int .u64 a)) (hy : ev e y = some (.int .u64 b)) (ha : a = (u.toNat : Int)) (hb : b = (v.toNat : Int)) (k : QL P N C ops.toArray l ((d, u64 (u * v)) :: e) Q) : QL P N C ops.toArray (⟨some d, .binOp .mul t x y ty, tt, ps, af, g⟩ :: l) e Q := QL.step hg hd (Lt.umul hx hy ha hb).in k
theorem QL.uquo (hg : gate ops e g = some true) (hd : Nat.blt d N = true) (hx : ev e x = some (.int .u64 a)) (hy : ev e y = some (.int .u64 b)) (ha : a = (u.toNat : Int)) (hb : b = (v.toNat : Int)) (hv : b ≠ 0) (k : QL P N C ops.toArray l ((d, u64 (u / v)) :: e) Q) : QL P N C ops.toArray (⟨some d, .binOp .quo t x y ty, tt, ps, af, g⟩ :: l) e Q := QL.step hg hd (Lt.uquo hx hy ha hb hv).in k
theorem QL.urem (hg : gate ops e g = some true) (hd : Nat.blt d N = true) (hx : ev e x = some (.int .u64 a)) (hy : ev e y = some (.int .u64 b)) (ha : a = (u.toNat : Int)) (hb : b = (v.toNat : Int)) (hv : b ≠ 0) (k : QL P N C ops.toArray l ((d, u64 (u % v)) :: e) Q) : QL P N C ops.toArray (⟨some d, .binOp .rem t x y ty, tt, ps, af, g⟩ :: l) e Q := QL.step hg hd (Lt.urem hx hy ha hb hv).in k
theorem QL.ushr (hg : gate ops e g = some true) (hd : Nat.blt d N = true) (hx : ev e x = some (.int .u64 a)) (hy : ev e y = some (.int j b)) (ha : a = (u.toNat : Int)) (hb : 0 ≤ b) (k : QL P N C ops.toArray l ((d, u64 (u >>> b.toNat)) :: e) Q) : QL P N C ops.toArray (⟨some d, .binOp .shr t x y ty, tt, ps, af, g⟩ :: l) e Q := QL.step hg hd (Lt.ushr hx hy ha hb).in k
theorem QL.ushl (hg : gate ops e g = some true) (hd : Nat.blt d N = true) (hx : ev e x = some (.int .u64 a)) (hy : ev e y = some (.int j b)) (ha : a = (u.toNat : Int)) (hb : 0 ≤ b) (k : QL P N C ops.toArray l ((d, u64 (u <<< b.toNat)) :: e) Q) : QL P N C ops.toArray (⟨some d, .binOp .shl t x y ty, tt, ps, af, g⟩ :: l) e Q := QL.step hg hd (Lt.ushl hx hy ha hb).in k
theorem QL.unot (hg : gate ops e g = some true) (hd : Nat.blt d N = true) (hx : ev e x = some (.int .u64 a)) (ha : a = (u.toNat : Int)) (k : QL P N C ops.toArray l ((d, u64 (~~~ u)) :: e) Q) : QL P N C ops.toArray (⟨some d, .unOp .xor t x, tt, ps, af, g⟩ :: l) e Q := QL.step hg hd (Lt.unot hx ha).in k
theorem SL.uand (hg : gate ops e g = some true) (hd : Nat.blt d N = true) (hx : ev e x = some (.int .u64 a)) (hy : ev e y = some (.int .u64 b)) (ha : a = (u.toNat : Int)) (hb : b = (v.toNat : Int)) (k : SL P N ops.toArray l ((d, u64 (u &&& v)) :: e) w K) : SL P N ops.toArray (⟨some d, .binOp .and t x y ty, tt, ps, af, g⟩ :: l) e w K := SL.step hg hd (Lt.uand hx hy ha hb).in k
theorem SL.uor (hg : gate ops e g = some true) (hd : Nat.blt d N = true) (hx : ev e x = some (.int .u64 a)) (hy : ev e y = some (.int .u64 b)) (ha : a = (u.toNat : Int)) (hb : b = (v.toNat : Int)) (k : SL P N ops.toArray l ((d, u64 (u ||| v)) :: e) w K) : SL P N ops.toArray (⟨some d, .binOp .or t x y ty, tt, ps, af, g⟩ :: l) e w K := SL.step hg hd (Lt.uor hx hy ha hb).in k
theorem SL.uxor (hg : gate ops e g = some true) (hd : Nat.blt d N = true) (hx : ev e x = some (.int .u64 a)) (hy : ev e y = some (.int .u64 b)) (ha : a = (u.toNat : Int)) (hb : b = (v.toNat : Int)) (k : SL P N ops.toArray l ((d, u64 (u ^^^ v)) :: e) w K) : SL P N ops.toArray (⟨some d, .binOp .xor t x y ty, tt, ps, af, g⟩ :: l) e w K := SL.step hg hd (Lt.uxor hx hy ha hb).in k
theorem SL.uandn (hg : gate ops e g = some true) (hd : Nat.blt d N = true) (hx : ev e x = some (.int .u64 a)) (hy : ev e y = some (.int .u64 b)) (ha : a = (u.toNat : Int)) (hb : b = (v.toNat : Int)) (k : SL P N ops.toArray l ((d, u64 (u &&& ~~~ v)) :: e) w K) : SL P N ops.toArray (⟨some d, .binOp .andNot t x y ty, tt, ps, af, g⟩ :: l) e w K := SL.step hg hd (Lt.uandn hx hy ha hb).in k
theorem SL.uadd (hg : gate ops e g = some true) (hd : Nat.blt d N = true) (hx : ev e x = some (.int .u64 a)) (hy : ev e y = some (.int .u64 b)) (ha : a = (u.toNat : Int)) (hb : b = (v.toNat : Int)) (k : SL P N ops.toArray l ((d, u64 (u + v)) :: e) w K) : SL P N ops.toArray (⟨some d, .binOp .add t x y ty, tt, ps, af, g⟩ :: l) e w K := SL.step hg hd (Lt.uadd hx hy ha hb).in k
theorem SL.umul (hg : gate ops e g = some true) (hd : Nat.blt d N = true) (hx : ev e x = some (.int .u64 a)) (hy : ev e y = some (.int .u64 b)) (ha : a = (u.toNat : Int)) (hb : b = (v.toNat : Int)) (k : SL P N ops.toArray l ((d, u64 (u * v)) :: e) w K) : SL P N ops.toArray (⟨some d, .binOp .mul t x y ty, tt, ps, af, g⟩ :: l) e w K := SL.step hg hd (Lt.umul hx hy ha hb).in k
theorem SL.uquo (hg : gate ops e g = some true) (hd : Nat.blt d N = true) (hx : ev e x = some (.int .u64 a)) (hy : ev e y = some (.int .u64 b)) (ha : a = (u.toNat : Int)) (hb : b = (v.toNat : Int)) (hv : b ≠ 0) (k : SL P N ops.toArray l ((d, u64 (u / v)) :: e) w K) : SL P N ops.toArray (⟨some d, .binOp .quo t x y ty, tt, ps, af, g⟩ :: l) e w K := SL.step hg hd (Lt.uquo hx hy ha hb hv).in k
theorem SL.urem (hg : gate ops e g = some true) (hd : Nat.blt d N = true) (hx : ev e x = some (.int .u64 a)) (hy : ev e y = some (.int .u64 b)) (ha : a = (u.toNat : Int)) (hb : b = (v.toNat : Int)) (hv : b ≠ 0) (k : SL P N ops.toArray l ((d, u64 (u % v)) :: e) w K) : SL P N ops.toArray (⟨some d, .binOp .rem t x y ty, tt, ps, af, g⟩ :: l) e w K := SL.step hg hd (Lt.urem hx hy ha hb hv).in k
theorem SL.ushr (hg : gate ops e g = some true) (hd : Nat.blt d N = true) (hx : ev e x = some (.int .u64 a)) (hy : ev e y = some (.int j b)) (ha : a = (u.toNat : Int)) (hb : 0 ≤ b) (k : SL P N ops.toArray l ((d, u64 (u >>> b.toNat)) :: e) w K) : SL P N ops.toArray (⟨some d, .binOp .shr t x y ty, tt, ps, af, g⟩ :: l) e w K := SL.step hg hd (Lt.ushr hx hy ha hb).in k
theorem SL.ushl (hg : gate ops e g = some true) (hd : Nat.blt d N = true) (hx : ev e x = some (.int .u64 a)) (hy : ev e y = some (.int j b)) (ha : a = (u.toNat : Int)) (hb : 0 ≤ b) (k : SL P N ops.toArray l ((d, u64 (u <<< b.toNat)) :: e) w K) : SL P N ops.toArray (⟨some d, .binOp .shl t x y ty, tt, ps, af, g⟩ :: l) e w K := SL.step hg hd (Lt.ushl hx hy ha hb).in k
theorem SL.unot (hg : gate ops e g = some true) (hd : Nat.blt d N = true) (hx : ev e x = some (.int .u64 a)) (ha : a = (u.toNat : Int)) (k : SL P N ops.toArray l ((d, u64 (~~~ u)) :: e) w K) : SL P N ops.toArray (⟨some d, .unOp .xor t x, tt, ps, af, g⟩ :: l) e w K := SL.step hg hd (Lt.unot hx ha).in k
end rules
end Go.Lt
