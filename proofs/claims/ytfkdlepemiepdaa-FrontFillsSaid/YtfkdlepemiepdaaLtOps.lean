/- The rules of the operations that only compute. Generic over the program. No conditions. -/
import Derived.Test.YtfkdlepemiepdaaLtBase
namespace Go.Lt
open Go.RowKit
set_option linter.unusedVariables false
set_option linter.unusedSimpArgs false

/-! ### The table of types, as far as a walk wants it -/

structure TI where
  desc : TypeDesc
  size : Nat
  bytes : Nat
  zero : Value

abbrev Tab := List (Nat × TI)

def tget : Tab → Nat → Option TI
  | [], _ => none
  | (k, v) :: r, t => bif Nat.beq k t then some v else tget r t

def TI.Ok (P : Program) (t : Nat) (i : TI) : Prop := P.underlying t = some i.desc ∧ (P.info? t).map (fun j => (j.size, j.bytes, j.zero)) = some (i.size, i.bytes, some i.zero)

def OkTab (P : Program) : Tab → Prop
  | [] => True
  | (t, i) :: r => i.Ok P t ∧ OkTab P r

theorem OkTab.at {P : Program} : ∀ {T : Tab} {t : Nat} {i : TI}, OkTab P T → tget T t = some i → i.Ok P t
  | (k, v) :: r, t, i, h, hg => by
    unfold tget at hg
    cases hb : Nat.beq k t with
    | true =>
      rw [hb] at hg; simp only [cond_true, Option.some.injEq] at hg; subst hg
      rw [← Nat.eq_of_beq_eq_true hb]; exact h.1
    | false => rw [hb] at hg; exact OkTab.at h.2 hg

theorem TI.Ok.info {P : Program} {t : Nat} {i : TI} (h : i.Ok P t) : ∃ j, P.info? t = some j ∧ j.size = i.size ∧ j.bytes = i.bytes ∧ j.zero = some i.zero := by
  obtain ⟨j, hj, hjj⟩ := Option.map_eq_some_iff.1 h.2
  simp only [Prod.mk.injEq] at hjj
  exact ⟨j, hj, hjj.1, hjj.2.1, hjj.2.2⟩

def isAggD : TypeDesc → Bool
  | .struct _ | .array _ _ => true
  | _ => false

section runs
variable {P : Program}
theorem run_underlying' {t : Nat} {i : TI} (h : i.Ok P t) (w : World) : (underlying t).run P w = .ok i.desc w := by
  simp [underlying, program, Sem.run, h.1]
theorem run_typeInfo' {t : Nat} {j : TypeInfo} (h : P.info? t = some j) (w : World) : (typeInfo t).run P w = .ok j w := by
  simp [typeInfo, program, Sem.run, h]
theorem run_sizeOf' {t : Nat} {i : TI} (h : i.Ok P t) (w : World) : (sizeOf t).run P w = .ok i.size w := by
  obtain ⟨j, h1, h2, _⟩ := h.info
  simp [sizeOf, run_typeInfo' h1, h2]
theorem run_isAgg' {t : Nat} {i : TI} (h : i.Ok P t) (w : World) : (isAgg t).run P w = .ok (isAggD i.desc) w := by
  simp only [isAgg, Sem.run_bind, run_underlying' h, Result.andThen_ok]
  cases i.desc <;> rfl
theorem run_zeroValue' {t : Nat} {i : TI} (h : i.Ok P t) (w : World) : (zeroValue t).run P w = .ok i.zero w := by
  obtain ⟨j, h1, _, _, h4⟩ := h.info
  simp [zeroValue, run_typeInfo' h1, h4]
end runs

/-! ### One operation that yields v and leaves the world -/

/-- Whatever the world: the operation yields v. -/
def Yields (P : Program) (e : Env) (o : Oper) (v : Value) : Prop := ∀ (ρ : Operand → Value), (∀ x u, ev e x = some u → ρ x = u) → ∀ w, (execOp ρ o).run P w = .ok (.value v) w

/-- .. in the world w, whatever the count of draws. -/
def YieldsAt (P : Program) (e : Env) (w : World) (o : Oper) (v : Value) : Prop := ∀ (ρ : Operand → Value), (∀ x u, ev e x = some u → ρ x = u) → ∀ m, (execOp ρ o).run P (at' w m) = .ok (.value v) (at' w m)

theorem Yields.at {P : Program} {e : Env} {w : World} {o : Oper} {v : Value} (h : Yields P e o v) : YieldsAt P e w o v := fun ρ hρ m => h ρ hρ _

noncomputable def cmpv (op : BinOp) (a b : Int) : Option Value :=
  match op with
  | .eql => some (.bool (dec (a = b)))
  | .neq => some (.bool (dec (a ≠ b)))
  | .lss => some (.bool (dec (a < b)))
  | .leq => some (.bool (dec (a ≤ b)))
  | .gtr => some (.bool (dec (b < a)))
  | .geq => some (.bool (dec (b ≤ a)))
  | _ => none

/-- Arithmetic that goes round; what may be told at once. -/
def arith (op : BinOp) (k : IntKind) (a b : Int) : Option Value :=
  match op with
  | .add => some (.int k (k.wrap (a + b)))
  | .sub => some (.int k (k.wrap (a - b)))
  | .mul => some (.int k (k.wrap (a * b)))
  | .and => some (.int k (k.wrap (BitVec.ofInt k.bits a &&& BitVec.ofInt k.bits b).toNat))
  | .or => some (.int k (k.wrap (BitVec.ofInt k.bits a ||| BitVec.ofInt k.bits b).toNat))
  | .xor => some (.int k (k.wrap (BitVec.ofInt k.bits a ^^^ BitVec.ofInt k.bits b).toNat))
  | .andNot => some (.int k (k.wrap (BitVec.ofInt k.bits a &&& ~~~ BitVec.ofInt k.bits b).toNat))
  | _ => none

def kindEq : IntKind → IntKind → Bool
  | .i8, .i8 | .i16, .i16 | .i32, .i32 | .i64, .i64 | .u8, .u8 | .u16, .u16 | .u32, .u32 | .u64, .u64 => true
  | _, _ => false
theorem kindEq_eq : ∀ {j k : IntKind}, kindEq j k = true → j = k := by intro j k; cases j <;> cases k <;> simp [kindEq]

noncomputable def pbin (op : BinOp) : Value → Value → Option Value
  | .int k a, .int k' b =>
    bif kindEq k k' then
      (match cmpv op a b with
       | some v => some v
       | none => arith op k a b)
    else none
  | .bool a, .bool b =>
    (match op with
     | .eql => some (.bool (dec (a = b)))
     | .neq => some (.bool (dec (a ≠ b)))
     | _ => none)
  | _, _ => none

def isBoolD : TypeDesc → Bool | .bool => true | _ => false

theorem run_binOp_int (P : Program) (op : BinOp) (t : TypeId) (k : IntKind) (a b : Int) (v : Value) (h : pbin op (.int k a) (.int k b) = some v) (w : World) :
    (binOp op t (.int k a) (.int k b)).run P w = .ok v w := by
  have hk : kindEq k k = true := by cases k <;> rfl
  simp only [pbin, hk, cond_true] at h
  cases op <;> simp only [cmpv, arith, Option.some.injEq, reduceCtorEq] at h <;> subst h <;>
    simp [binOp, Op.intArith, Op.intCmp, Op.intBits, Sem.run, pure, dec_decide] <;> (try rfl) <;>
    (try (by_cases hab : a = b <;> simp [hab, bne]))

theorem eqGuard_int (P : Program) (op : BinOp) (t : TypeId) (x y : Operand) (k j : IntKind) (a b : Int) (w : World) : (eqGuard op t x y (.int k a) (.int j b)).run P w = .ok () w := by
  unfold eqGuard; split <;> simp
theorem eqGuard_bool (P : Program) (op : BinOp) (t : TypeId) (x y : Operand) (a b : Bool) (w : World) : (eqGuard op t x y (.bool a) (.bool b)).run P w = .ok () w := by
  unfold eqGuard; split <;> simp

def isBoolT (T : Tab) (t : TypeId) : Bool :=
  match tget T t with
  | some i => isBoolD i.desc
  | none => false

theorem run_binOp_bool {P : Program} {T : Tab} (hT : OkTab P T) (op : BinOp) (t : TypeId) (a b : Bool) (v : Value) (ht : isBoolT T t = true) (h : pbin op (.bool a) (.bool b) = some v) (w : World) :
    (binOp op t (.bool a) (.bool b)).run P w = .ok v w := by
  unfold isBoolT at ht
  split at ht
  · rename_i i hi
    have ho := hT.at hi
    have hd : i.desc = .bool := by cases hd : i.desc <;> rw [hd] at ht <;> simp [isBoolD] at ht <;> rfl
    have hr : ∀ w, (Op.equal t (.bool a) (.bool b)).run P w = .ok (a == b) w := by
      intro w
      have hu := run_underlying' ho
      rw [hd] at hu
      have hmx : Op.maxDepth = 9999 + 1 := rfl
      unfold Op.equal
      rw [hmx, Op.equalIn]
      simp only [Sem.run_bind, hu, Result.andThen_ok]
      rfl
    cases op <;> simp only [pbin, Option.some.injEq, reduceCtorEq] at h <;> subst h <;> simp [binOp, hr, dec_decide] <;> cases a <;> cases b <;> rfl
  · cases ht

def puno : UnOp → Value → Option Value
  | .not, .bool b => some (.bool (!b))
  | _, _ => none

def fieldOf (T : Tab) (s f : Nat) : Option (Nat × TI) :=
  match tget T s with
  | some i =>
    (match i.desc with
     | .struct fs =>
       (match fs[f]? with
        | some fd =>
          (match tget T fd.type with
           | some j => some (fd.offset, j)
           | none => none)
        | none => none)
     | _ => none)
  | none => none

def isNilable : TypeDesc → Bool
  | .slice _ | .pointer _ => true
  | _ => false

def lenv (T : Tab) (t : Nat) (v : Value) : Option Value :=
  match v with
  | .slice _ n _ =>
    (match tget T t with
     | some i => (match i.desc with | .slice _ => some (.int .i64 n) | _ => none)
     | none => none)
  | .string s =>
    (match tget T t with
     | some i => (match i.desc with | .string => some (.int .i64 s.size) | _ => none)
     | none => none)
  | _ => none

def evs (e : Env) : List Operand → Option (List Value)
  | [] => some []
  | x :: r =>
    (match ev e x with
     | some v =>
       (match evs e r with
        | some vs => some (v :: vs)
        | none => none)
     | none => none)

/-- '+', '-', '*' on int are left to rules of their own. -/
def roundsOff : BinOp → IntKind → Bool
  | .add, .i64 => true
  | .sub, .i64 => true
  | .mul, .i64 => true
  | _, _ => false

def nthv : List Value → Nat → Option Value
  | [], _ => none
  | v :: _, 0 => some v
  | _ :: r, n + 1 => nthv r n
theorem nthv_eq (l : List Value) (n : Nat) : l[n]? = nthv l n := by
  induction l generalizing n with
  | nil => simp [nthv]
  | cons v r ih => cases n <;> simp [nthv, ih]

/-- What an operation that only computes yields. -/
noncomputable def pev (T : Tab) (e : Env) : Op → Option Value
  | .move x => ev e x
  | .assign x => ev e x
  | .pick c a b =>
    (match ev e c with
     | some (.bool c) => bif c then ev e a else ev e b
     | _ => none)
  | .binOp op t x y _ =>
    (match ev e x with
     | some (.int k a) =>
       (match ev e y with
        | some (.int j b) => bif roundsOff op k then none else pbin op (.int k a) (.int j b)
        | _ => none)
     | some (.bool a) =>
       (match ev e y with
        | some (.bool b) => bif isBoolT T t then pbin op (.bool a) (.bool b) else none
        | _ => none)
     | _ => none)
  | .unOp op _ x =>
    (match ev e x with
     | some v => puno op v
     | none => none)
  | .convert s d x =>
    (match ev e x with
     | some (.int _ n) =>
       (match tget T s with
        | some i =>
          (match i.desc with
           | .int _ =>
             (match tget T d with
              | some j => (match j.desc with | .int k => some (.int k (k.wrap n)) | _ => none)
              | none => none)
           | _ => none)
        | none => none)
     | _ => none)
  | .fieldAddr s x f =>
    (match ev e x with
     | some (.pointer (some ⟨b, off, none⟩)) =>
       (match fieldOf T s f with
        | some (o, j) => bif Nat.beq j.size 0 then none else some (.pointer (some ⟨b, off + o, none⟩))
        | none => none)
     | _ => none)
  | .field s x f =>
    (match ev e x with
     | some (.agg cs) =>
       (match fieldOf T s f with
        | some (o, j) => bif isAggD j.desc then some (.agg (cs.extract o (o + j.size))) else nthv cs.toList o
        | none => none)
     | _ => none)
  | .extract x i =>
    (match ev e x with
     | some (.tuple ⟨vs⟩) => nthv vs i
     | _ => none)
  | .call { callee := .builtin .len, args := ⟨[x]⟩, argTypes := ⟨[t]⟩ } =>
    (match ev e x with
     | some v => lenv T t v
     | none => none)
  | .makeFunc fn ⟨first⟩ ⟨captured⟩ =>
    (match evs e first with
     | some vs =>
       (match evs e captured with
        | some us => some (.func fn vs.toArray us.toArray)
        | none => none)
     | none => none)
  | _ => none

theorem evs_map {e : Env} {ρ : Operand → Value} (hρ : ∀ x u, ev e x = some u → ρ x = u) : ∀ {l : List Operand} {vs : List Value}, evs e l = some vs → l.map ρ = vs
  | [], vs, h => by simp [evs] at h; simp [h]
  | x :: r, vs, h => by
    unfold evs at h
    split at h
    · rename_i v hv
      split at h
      · rename_i us hus
        simp only [Option.some.injEq] at h; subst h
        simp [hρ _ _ hv, evs_map hρ hus]
      · cases h
    · cases h

theorem Addr_add_none (b off n : Nat) : (⟨b, off, none⟩ : Addr).add n = ⟨b, off + n, none⟩ := by
  unfold Addr.add; split <;> simp_all

theorem pev_yields {P : Program} {T : Tab} (hT : OkTab P T) {e : Env} {d : Option Tmp} {op : Op} {tt : TypeId} {ps : String} {af : Array Edge} {g : Option (Nat × Bool)} {v : Value}
    (h : pev T e op = some v) : Yields P e ⟨d, op, tt, ps, af, g⟩ v := by
  intro ρ hρ w
  unfold pev at h
  split at h
  · simp [execOp, hρ _ _ h]
  · simp [execOp, hρ _ _ h]
  · split at h
    · rename_i c a b _ c' hc
      cases c' <;> simp only [cond_true, cond_false] at h <;> simp [execOp, hρ _ _ hc, hρ _ _ h, asBool]
    · cases h
  · split at h
    · rename_i op0 t0 x0 y0 ty0 _ k a hx
      split at h
      · rename_i j b hy
        have h : pbin op0 (.int k a) (.int j b) = some v := by
          revert h
          cases roundsOff op0 k <;> simp
        have hk : k = j := by
          simp only [pbin] at h
          cases hb : kindEq k j with
          | true => exact kindEq_eq hb
          | false => rw [hb] at h; cases h
        subst hk
        simp [execOp, hρ _ _ hx, hρ _ _ hy, eqGuard_int, run_binOp_int P _ _ k a b v h]
      · cases h
    · rename_i op' t x y ty _ a hx
      split at h
      · rename_i b hy
        cases hb : isBoolT T t with
        | true =>
          rw [hb] at h; simp only [cond_true] at h
          simp [execOp, hρ _ _ hx, hρ _ _ hy, eqGuard_bool, run_binOp_bool hT _ _ a b v hb h]
        | false => rw [hb] at h; cases h
      · cases h
    · cases h
  · split at h
    · rename_i x _ u hx
      unfold puno at h
      split at h
      · simp only [Option.some.injEq] at h; subst h; simp [execOp, hρ _ _ hx, Op.unary]
      · cases h
    · cases h
  · split at h
    · rename_i s d x _ k n hx
      split at h
      · rename_i i hi
        split at h
        · rename_i ki hdi
          split at h
          · rename_i j hj
            split at h
            · rename_i kj hdj
              simp only [Option.some.injEq] at h; subst h
              have h1 := run_underlying' (hT.at hi); rw [hdi] at h1
              have h2 := run_underlying' (hT.at hj); rw [hdj] at h2
              simp [execOp, hρ _ _ hx, convert, h1, h2, Conv.intToInt]
            · cases h
          · cases h
        · cases h
      · cases h
    · cases h
  · split at h
    · rename_i s x f _ b off hx
      split at h
      · rename_i o j hf
        cases hz : Nat.beq j.size 0 with
        | true => rw [hz] at h; cases h
        | false =>
          rw [hz] at h; simp only [cond_false, Option.some.injEq] at h; subst h
          unfold fieldOf at hf
          split at hf
          · rename_i i hi
            split at hf
            · rename_i fs hd
              split at hf
              · rename_i fd hfd
                split at hf
                · rename_i j' hj
                  simp only [Option.some.injEq, Prod.mk.injEq] at hf
                  obtain ⟨rfl, rfl⟩ := hf
                  have h1 := run_underlying' (hT.at hi); rw [hd] at h1
                  have h2 := run_sizeOf' (hT.at hj)
                  have hz' : j'.size ≠ 0 := fun hh => by rw [hh] at hz; cases hz
                  simp [execOp, hρ _ _ hx, Instr.fieldAt, h1, hfd, Instr.sureAddr, fieldPlace, h2, hz', Addr_add_none]
                · cases hf
              · cases hf
            · cases hf
          · cases hf
      · cases h
    · cases h
  · split at h
    · rename_i s x f _ cs hx
      split at h
      · rename_i o j hf
        unfold fieldOf at hf
        split at hf
        · rename_i i hi
          split at hf
          · rename_i fs hd
            split at hf
            · rename_i fd hfd
              split at hf
              · rename_i j' hj
                simp only [Option.some.injEq, Prod.mk.injEq] at hf
                obtain ⟨rfl, rfl⟩ := hf
                have h1 := run_underlying' (hT.at hi); rw [hd] at h1
                have h2 := run_sizeOf' (hT.at hj)
                have h3 := run_isAgg' (hT.at hj)
                cases hz : isAggD j'.desc with
                | true =>
                  rw [hz] at h h3; simp only [cond_true, Option.some.injEq] at h; subst h
                  simp [execOp, hρ _ _ hx, Instr.field, h1, hfd, asAgg, part, h2, h3]
                | false =>
                  rw [hz] at h h3; simp only [cond_false] at h
                  rw [← nthv_eq, Array.getElem?_toList] at h
                  simp [execOp, hρ _ _ hx, Instr.field, h1, hfd, asAgg, part, h2, h3, h]
              · cases hf
            · cases hf
          · cases hf
        · cases hf
      · cases h
    · cases h
  · split at h
    · rename_i x i _ vs hx
      rw [← nthv_eq] at h
      simp [execOp, hρ _ _ hx, Instr.extract, h]
    · cases h
  · split at h
    · rename_i x t _ u hx
      unfold lenv at h
      split at h
      · split at h
        · rename_i i hi
          split at h
          · rename_i el hd
            simp only [Option.some.injEq] at h; subst h
            have h1 := run_underlying' (hT.at hi); rw [hd] at h1
            simp [execOp, resolve, invoke, builtin, hρ _ _ hx, Builtin.len_, h1, goInt]
          · cases h
        · cases h
      · split at h
        · rename_i i hi
          split at h
          · rename_i hd
            simp only [Option.some.injEq] at h; subst h
            have h1 := run_underlying' (hT.at hi); rw [hd] at h1
            simp [execOp, resolve, invoke, builtin, hρ _ _ hx, Builtin.len_, h1, goInt]
          · cases h
        · cases h
      · cases h
    · cases h
  · split at h
    · rename_i first captured _ vs hvs
      split at h
      · rename_i us hus
        simp only [Option.some.injEq] at h; subst h
        simp [execOp, Instr.makeFunc, evs_map hρ hvs, evs_map hρ hus]
      · cases h
    · cases h
  · cases h

end Go.Lt
