/- By which inputs a fault is shown: the program's, 64 times at once and once. No conditions. -/
import Derived.Test.YtfkdlepemiepdaaFault3
import Derived.Test.YtfkdlepemiepdaaFault4
import Derived.Test.YtfkdlepemiepdaaEval
namespace Go.Proofs.Ytfkdlepemiepdaa
open Go Go.Lt Go.RowKit
set_option linter.unusedVariables false
set_option linter.unusedSimpArgs false

theorem pack_one (b : Option Addr) (cb : Nat) (ins : List Bool) : (pack [(b, cb, ins)]).length = ins.length ∧ bitsOf (pack [(b, cb, ins)]) 0 = ins := by
  have hpk : (pack [(b, cb, ins)]).length = ins.length := by
    show (rowTo (growW [] ins.length) 0 ins ins.length).length = _
    rw [rowTo_len, growW_len]; simp
  refine ⟨hpk, ?_⟩
  apply List.ext_getElem?
  intro q
  by_cases hq : q < ins.length
  · have h1 := pack_bit [(b, cb, ins)] q 0 (by omega) 1 (by omega)
    have h2 : ((pack [(b, cb, ins)]).getD q 0#64).getLsbD 0 = ins.getD q false := by
      show ((packTo [(b, cb, ins)] 1).getD q 0#64).getLsbD 0 = _
      rw [h1]; rfl
    rw [← getD_bits] at h2
    have hbl : (bitsOf (pack [(b, cb, ins)]) 0).length = ins.length := by rw [bitsOf, List.length_map, hpk]
    obtain ⟨x, hx⟩ := getI (bitsOf (pack [(b, cb, ins)]) 0) (show q < _ by omega)
    obtain ⟨y, hy⟩ := getI ins hq
    rw [getD_of hx, getD_of hy] at h2
    rw [hx, hy, h2]
  · rw [List.getElem?_eq_none (by rw [bitsOf, List.length_map, hpk]; omega), List.getElem?_eq_none (by omega)]

/-- Which lanes differ. -/
def shownF (W1 W2 : List (BitVec 64)) (f : Int → Int) (l : List Int) : BitVec 64 := l.foldl (fun s x => s ||| (wordOf W1 x ^^^ wordOf W2 (f x))) 0#64
theorem shownF_snoc (W1 W2 : List (BitVec 64)) (f : Int → Int) {l : List Int} {k : Nat} {x : Int} (h : l[k]? = some x) : shownF W1 W2 f (l.take (k + 1)) = shownF W1 W2 f (l.take k) ||| (wordOf W1 x ^^^ wordOf W2 (f x)) := by
  unfold shownF; rw [take_succ' h, List.foldl_append]; rfl
theorem shownF_bit (W1 W2 : List (BitVec 64)) (f : Int → Int) (i : Nat) (l : List Int) : ∀ s : BitVec 64, (l.foldl (fun s x => s ||| (wordOf W1 x ^^^ wordOf W2 (f x))) s).getLsbD i = (s.getLsbD i || l.any (fun x => (wordOf W1 x).getLsbD i != (wordOf W2 (f x)).getLsbD i)) := by
  induction l with
  | nil => intro s; simp
  | cons x r ih =>
    intro s
    rw [List.foldl_cons, ih, List.any_cons, BitVec.getLsbD_or, BitVec.getLsbD_xor, Bool.or_assoc]
noncomputable def fwords (n : List (Int × Int)) (outs : List Int) (v p : Int) (o : Bool) (ins : List (BitVec 64)) : BitVec 64 :=
  bif dec (goodF n v p) then shownF (wvalues n ins) (wvalues (injNet n v p o) ins) (injL v p o) outs else 0#64
theorem any_ne {f g : Int → Bool} : ∀ l : List Int, l.any (fun x => f x != g x) = !dec (l.map f = l.map g)
  | [] => by show false = !dec (([] : List Bool) = []); rw [dec_true rfl]; rfl
  | x :: r => by
    have ih := any_ne (f := f) (g := g) r
    rw [List.any_cons, ih]
    by_cases h1 : f x = g x
    · by_cases h2 : r.map f = r.map g
      · rw [dec_true h2, dec_true (show (x :: r).map f = (x :: r).map g by rw [List.map_cons, List.map_cons, h1, h2])]; simp [h1]
      · rw [dec_false h2, dec_false (show ¬ (x :: r).map f = (x :: r).map g from fun h => h2 (by rw [List.map_cons, List.map_cons] at h; exact (List.cons.inj h).2))]; simp
    · rw [dec_false (show ¬ (x :: r).map f = (x :: r).map g from fun h => h1 (by rw [List.map_cons, List.map_cons] at h; exact (List.cons.inj h).1))]
      have : (f x != g x) = true := by cases hf : f x <;> cases hg : g x <;> simp_all
      rw [this]; rfl
theorem fwords_bit {n : List (Int × Int)} {outs : List Int} {v p : Int} {o : Bool} (hg : GoodNet n) (hk : ∀ l ∈ outs, 0 ≤ l ∧ l ≤ 2 * (n.length : Int) + 1) (ins : List (BitVec 64)) {i : Nat} (hi : i < 64) :
    (fwords n outs v p o ins).getLsbD i = dec (detP n outs v p o (bitsOf ins i)) := by
  unfold fwords
  by_cases hf : goodF n v p
  · rw [dec_true hf]
    show (shownF _ _ _ _).getLsbD i = _
    have hng := injNet_good (o := o) hg hf
    have hl1 : (wvalues n ins).length = n.length + 1 := (wto_len n ins n.length (Nat.le_refl _)).1
    have hl2 : (wvalues (injNet n v p o) ins).length = n.length + 1 := by rw [← injNet_len n v p o]; exact (wto_len (injNet n v p o) ins _ (Nat.le_refl _)).1
    have hh1 : (wvalues n ins).getD 0 0#64 = 0#64 := wto_head n ins n.length (Nat.le_refl _)
    have hh2 : (wvalues (injNet n v p o) ins).getD 0 0#64 = 0#64 := wto_head _ ins _ (Nat.le_refl _)
    have e : outs.any (fun x => (wordOf (wvalues n ins) x).getLsbD i != (wordOf (wvalues (injNet n v p o) ins) (injL v p o x)).getLsbD i) = outs.any (fun x => ofL (values n (bitsOf ins i)) x != ofL (values (injNet n v p o) (bitsOf ins i)) (injL v p o x)) := by
      have key : ∀ L : List Int, (∀ l ∈ L, 0 ≤ l ∧ l ≤ 2 * (n.length : Int) + 1) → L.any (fun x => (wordOf (wvalues n ins) x).getLsbD i != (wordOf (wvalues (injNet n v p o) ins) (injL v p o x)).getLsbD i) = L.any (fun x => ofL (values n (bitsOf ins i)) x != ofL (values (injNet n v p o) (bitsOf ins i)) (injL v p o x)) := by
        intro L
        induction L with
        | nil => intro _; rfl
        | cons x r ih =>
          intro hL
          have hx := hL x (by simp)
          have hy := injL_le (v := v) (p := p) (o := o) hx
          rw [List.any_cons, List.any_cons, ih (fun l hl => hL l (by simp [hl])), bit_wordOf hh1 hx.1 (by omega) hi, bit_wordOf hh2 hy.1 (by omega) hi, bits_wvalues hg ins hi, bits_wvalues hng ins hi]
      exact key outs hk
    rw [shownF, shownF_bit, e]
    have e2 : outsF n outs v p o (bitsOf ins i) = outs.map (fun x => ofL (values (injNet n v p o) (bitsOf ins i)) (injL v p o x)) := by
      show (outs.map (injL v p o)).map _ = _
      rw [List.map_map]; rfl
    have e3 := any_ne (f := ofL (values n (bitsOf ins i))) (g := fun x => ofL (values (injNet n v p o) (bitsOf ins i)) (injL v p o x)) outs
    rw [e3, ← e2]
    by_cases h : outsV n outs (bitsOf ins i) = outsF n outs v p o (bitsOf ins i)
    · rw [dec_true h, dec_false (fun hh => hh.2 h)]; simp
    · rw [dec_false h, dec_true ⟨hf, h⟩]; simp
  · rw [dec_false hf, dec_false (fun h => hf h.1)]
    show (0#64).getLsbD i = false
    simp

set_option maxHeartbeats 4000000 in
theorem fsim_Words (ra rb ri : Option Addr) (cap cb ci : Nat) (n : List (Int × Int)) (outs : List Int) (v p : Int) (o : Bool) (ins : List (BitVec 64)) (w : World) (R : Row 2 encN w ra n) (Rb : Row 1 encI w rb outs) (Ri : Row 1 encV w ri ins) (hna : ra = none → cap = 0) (hnb : rb = none → cb = 0) (hci : ins.length ≤ ci) (hg : GoodNet n) (hn : n.length ≤ 1048576) (ho : outs.length ≤ 1048576) (hv : inI64 v) (hk : ∀ l ∈ outs, 0 ≤ l ∧ l ≤ 2 * (n.length : Int) + 1) :
    Pure Try.prog 41 [.slice ra n.length cap, .slice rb outs.length cb, fv v p o, .slice ri ins.length ci] w (u64 (fwords n outs v p o ins)) := by
  have hlb := Rb.len
  by_cases hf : goodF n v p
  · have e : fwords n outs v p o ins = shownF (wvalues n ins) (wvalues (injNet n v p o) ins) (injL v p o) outs := by unfold fwords; rw [dec_true hf]; rfl
    rw [e]
    have hng := injNet_good (o := o) hg hf
    have hnl := injNet_len n v p o
    refine Spec.of _ Try.func41 rfl Try.ntmps41 (by kernel_rfl) rfl ?_
    repeat' (first
      | (apply WL.box; exact rfl; exact rfl; exact rfl; intro gb w' hb hge hc hx; have hcc := hc; first | (obtain ⟨h1, h2, h3, _⟩ := hc) | (obtain ⟨h1, h2, _⟩ := hc))
      | ((show WL _ _ _ (⟨_, .call ⟨.value (.func 103), _, _⟩, _, _, _, _⟩ :: _) _ _ _); apply WL.callP; exact rfl; exact rfl; exact rfl; exact rfl; exact fault_Good _ _ n v p o _ (R.ext (by (exact extA))) hv; intro w' hx)
      | (apply WL.gT; exact rfl; exact rfl; (focus ((rw [dec_true hf]; rfl); done)))
      | (apply WL.gF; exact rfl; exact rfl; (focus ((rw [dec_true hf]; rfl); done)))
      | (apply W.condKT; exact rfl; (focus ((rw [dec_true hf]; rfl); done)))
      | (apply W.condKF; exact rfl; (focus ((rw [dec_true hf]; rfl); done)))
      | (((show WL _ _ _ (⟨_, .call ⟨.value (.func 104), _, _⟩, _, _, _, _⟩ :: _) _ _ _); apply WL.call; exact rfl; exact rfl; exact rfl; exact rfl; exact fault_Inject _ _ _ _ n outs v p o _ (R.ext (by (exact extA))) (Rb.ext (by (exact extA))) hna hnb hg hn ho hf hk; rintro v' w2 ⟨hx2, a2, c2, a3, c3, rfl, R2, R3⟩))
      | (show WL _ _ _ _ _ _ _; first | apply WL.nil | (apply WL.pev tOk; exact rfl; exact rfl; exact rfl) | (apply WL.load tOk; exact rfl; exact rfl; exact rfl; exact rfl; exact rfl; (first | assumption | (focus (apply Ext.cell; rotate_left; assumption; (exact extA); done)))) | (apply WL.index tOk; exact rfl; exact rfl; exact rfl; exact rfl; exact rfl; exact rfl; exact rfl; exact rfl; assumption; (exact extA); exact rfl; omega; assumption; intro b off h; have hcc := h; first | (obtain ⟨h1, h2, h3, h4, h5, h6, _⟩ := h) | (obtain ⟨h1, h2, h3, _⟩ := h) | (obtain ⟨h1, h2, _⟩ := h) | (obtain ⟨h1, _⟩ := h)) | (apply WL.add; exact rfl; exact rfl; exact rfl; exact rfl; omega) | (apply WL.sub; exact rfl; exact rfl; exact rfl; exact rfl; omega) | (apply WL.mul; exact rfl; exact rfl; exact rfl; exact rfl; omega) | (apply WL.quo; exact rfl; exact rfl; exact rfl; exact rfl; omega) | (apply WL.rem; exact rfl; exact rfl; exact rfl; exact rfl; omega) | (apply WL.loadA tOk; exact rfl; exact rfl; exact rfl; exact rfl; exact rfl; (first | assumption | (focus (apply Cells.ext; rotate_left; assumption; (exact extA); done))); exact rfl) | (apply WL.guardF; exact rfl; exact rfl) | (apply WL.gD; exact rfl; exact rfl; all_goals intro _) | (apply WL.gN; exact rfl; exact rfl; all_goals intro _) | (apply WL.gB; exact rfl; exact rfl; all_goals intro _))
      | (show Z _ _ _ _ _; first | apply Z.tail | apply Z.then_normal | apply Z.block_normal | apply Z.then_exit | apply Z.block_exit | apply Z.then_ret | apply Z.block_ret | (apply Z.block_other; exact rfl))
      | (show W _ _ _ _ _ _; first | apply W.seq | apply W.region | apply W.block | apply W.skip | apply W.ret | apply W.exit | (apply W.condT; exact rfl) | (apply W.condF; exact rfl) | (apply W.condD; exact rfl; all_goals intro _) | (apply W.condN; exact rfl; all_goals intro _) | (apply W.condB; exact rfl; all_goals intro _)))
    have hxw2 : Ext w w2 := (by (exact extA))
    repeat' (first
      | ((show WL _ _ _ (⟨_, .call ⟨.value (.func 95), _, _⟩, _, _, _, _⟩ :: _) _ _ _); apply WL.call; exact rfl; exact rfl; exact rfl; exact rfl; exact sim_Words _ _ _ _ n ins _ (R.ext (by (exact extA))) (Ri.ext (by (exact extA))) hci hg hn; rintro v' w' ⟨hx, a', cap', rfl, hO⟩)
      | (show WL _ _ _ _ _ _ _; first | apply WL.nil | (apply WL.pev tOk; exact rfl; exact rfl; exact rfl) | (apply WL.load tOk; exact rfl; exact rfl; exact rfl; exact rfl; exact rfl; (first | assumption | (focus (apply Ext.cell; rotate_left; assumption; (exact extA); done)))) | (apply WL.index tOk; exact rfl; exact rfl; exact rfl; exact rfl; exact rfl; exact rfl; exact rfl; exact rfl; assumption; (exact extA); exact rfl; omega; assumption; intro b off h; have hcc := h; first | (obtain ⟨h1, h2, h3, h4, h5, h6, _⟩ := h) | (obtain ⟨h1, h2, h3, _⟩ := h) | (obtain ⟨h1, h2, _⟩ := h) | (obtain ⟨h1, _⟩ := h)) | (apply WL.add; exact rfl; exact rfl; exact rfl; exact rfl; omega) | (apply WL.sub; exact rfl; exact rfl; exact rfl; exact rfl; omega) | (apply WL.mul; exact rfl; exact rfl; exact rfl; exact rfl; omega) | (apply WL.quo; exact rfl; exact rfl; exact rfl; exact rfl; omega) | (apply WL.rem; exact rfl; exact rfl; exact rfl; exact rfl; omega) | (apply WL.loadA tOk; exact rfl; exact rfl; exact rfl; exact rfl; exact rfl; (first | assumption | (focus (apply Cells.ext; rotate_left; assumption; (exact extA); done))); exact rfl) | (apply WL.guardF; exact rfl; exact rfl) | (apply WL.gD; exact rfl; exact rfl; all_goals intro _) | (apply WL.gN; exact rfl; exact rfl; all_goals intro _) | (apply WL.gB; exact rfl; exact rfl; all_goals intro _))
      | (show Z _ _ _ _ _; first | apply Z.tail | apply Z.then_normal | apply Z.block_normal | apply Z.then_exit | apply Z.block_exit | apply Z.then_ret | apply Z.block_ret | (apply Z.block_other; exact rfl))
      | (show W _ _ _ _ _ _; first | apply W.seq | apply W.region | apply W.block | apply W.skip | apply W.ret | apply W.exit | (apply W.condT; exact rfl) | (apply W.condF; exact rfl) | (apply W.condD; exact rfl; all_goals intro _) | (apply W.condN; exact rfl; all_goals intro _) | (apply W.condB; exact rfl; all_goals intro _)))
    have RW1 := Own.row encV_ok hO
    have hx3 : Ext w2 w' := (by (exact extA))
    obtain ⟨a4, rfl⟩ : ∃ x, x = a' := ⟨_, rfl⟩; obtain ⟨c4, rfl⟩ : ∃ x, x = cap' := ⟨_, rfl⟩; obtain ⟨w3, rfl⟩ : ∃ x, x = w' := ⟨_, rfl⟩
    repeat' (first
      | ((show WL _ _ _ (⟨_, .call ⟨.value (.func 95), _, _⟩, _, _, _, _⟩ :: _) _ _ _); apply WL.call; exact rfl; exact rfl; exact rfl; exact rfl; exact sim_Words _ _ _ _ (injNet n v p o) ins _ (R2.ext (by (exact extA))) (Ri.ext (hxw2.trans hx3)) hci hng (by omega); rintro v' w' ⟨hx, a', cap', rfl, hO⟩)
      | (show WL _ _ _ _ _ _ _; first | apply WL.nil | (apply WL.pev tOk; exact rfl; exact rfl; exact rfl) | (apply WL.load tOk; exact rfl; exact rfl; exact rfl; exact rfl; exact rfl; (first | assumption | (focus (apply Ext.cell; rotate_left; assumption; (exact extA); done)))) | (apply WL.index tOk; exact rfl; exact rfl; exact rfl; exact rfl; exact rfl; exact rfl; exact rfl; exact rfl; assumption; (exact extA); exact rfl; omega; assumption; intro b off h; have hcc := h; first | (obtain ⟨h1, h2, h3, h4, h5, h6, _⟩ := h) | (obtain ⟨h1, h2, h3, _⟩ := h) | (obtain ⟨h1, h2, _⟩ := h) | (obtain ⟨h1, _⟩ := h)) | (apply WL.add; exact rfl; exact rfl; exact rfl; exact rfl; omega) | (apply WL.sub; exact rfl; exact rfl; exact rfl; exact rfl; omega) | (apply WL.mul; exact rfl; exact rfl; exact rfl; exact rfl; omega) | (apply WL.quo; exact rfl; exact rfl; exact rfl; exact rfl; omega) | (apply WL.rem; exact rfl; exact rfl; exact rfl; exact rfl; omega) | (apply WL.loadA tOk; exact rfl; exact rfl; exact rfl; exact rfl; exact rfl; (first | assumption | (focus (apply Cells.ext; rotate_left; assumption; (exact extA); done))); exact rfl) | (apply WL.guardF; exact rfl; exact rfl) | (apply WL.gD; exact rfl; exact rfl; all_goals intro _) | (apply WL.gN; exact rfl; exact rfl; all_goals intro _) | (apply WL.gB; exact rfl; exact rfl; all_goals intro _))
      | (show Z _ _ _ _ _; first | apply Z.tail | apply Z.then_normal | apply Z.block_normal | apply Z.then_exit | apply Z.block_exit | apply Z.then_ret | apply Z.block_ret | (apply Z.block_other; exact rfl))
      | (show W _ _ _ _ _ _; first | apply W.seq | apply W.region | apply W.block | apply W.skip | apply W.ret | apply W.exit | (apply W.condT; exact rfl) | (apply W.condF; exact rfl) | (apply W.condD; exact rfl; all_goals intro _) | (apply W.condN; exact rfl; all_goals intro _) | (apply W.condB; exact rfl; all_goals intro _)))
    have RW2 := Own.row encV_ok hO
    have hx4 : Ext w3 w' := (by (exact extA))
    have hxw4 : Ext w w' := hxw2.trans (hx3.trans hx4)
    have RW1b := RW1.ext hx4
    have R3b := R3.ext (hx3.trans hx4)
    have Rb4 := Rb.ext hxw4
    obtain ⟨a5, rfl⟩ : ∃ x, x = a' := ⟨_, rfl⟩; obtain ⟨c5, rfl⟩ : ∃ x, x = cap' := ⟨_, rfl⟩; obtain ⟨w4, rfl⟩ : ∃ x, x = w' := ⟨_, rfl⟩
    repeat' (first
      | (show WL _ _ _ _ _ _ _; first | apply WL.nil | (apply WL.pev tOk; exact rfl; exact rfl; exact rfl) | (apply WL.load tOk; exact rfl; exact rfl; exact rfl; exact rfl; exact rfl; (first | assumption | (focus (apply Ext.cell; rotate_left; assumption; (exact extA); done)))) | (apply WL.index tOk; exact rfl; exact rfl; exact rfl; exact rfl; exact rfl; exact rfl; exact rfl; exact rfl; assumption; (exact extA); exact rfl; omega; assumption; intro b off h; have hcc := h; first | (obtain ⟨h1, h2, h3, h4, h5, h6, _⟩ := h) | (obtain ⟨h1, h2, h3, _⟩ := h) | (obtain ⟨h1, h2, _⟩ := h) | (obtain ⟨h1, _⟩ := h)) | (apply WL.add; exact rfl; exact rfl; exact rfl; exact rfl; omega) | (apply WL.sub; exact rfl; exact rfl; exact rfl; exact rfl; omega) | (apply WL.mul; exact rfl; exact rfl; exact rfl; exact rfl; omega) | (apply WL.quo; exact rfl; exact rfl; exact rfl; exact rfl; omega) | (apply WL.rem; exact rfl; exact rfl; exact rfl; exact rfl; omega) | (apply WL.loadA tOk; exact rfl; exact rfl; exact rfl; exact rfl; exact rfl; (first | assumption | (focus (apply Cells.ext; rotate_left; assumption; (exact extA); done))); exact rfl) | (apply WL.guardF; exact rfl; exact rfl) | (apply WL.gD; exact rfl; exact rfl; all_goals intro _) | (apply WL.gN; exact rfl; exact rfl; all_goals intro _) | (apply WL.gB; exact rfl; exact rfl; all_goals intro _))
      | (show Z _ _ _ _ _; first | apply Z.tail | apply Z.then_normal | apply Z.block_normal | apply Z.then_exit | apply Z.block_exit | apply Z.then_ret | apply Z.block_ret | (apply Z.block_other; exact rfl))
      | (show W _ _ _ _ _ _; first | apply W.seq | apply W.region | apply W.block | apply W.skip | apply W.ret | apply W.exit | (apply W.condT; exact rfl) | (apply W.condF; exact rfl) | (apply W.condD; exact rfl; all_goals intro _) | (apply W.condN; exact rfl; all_goals intro _) | (apply W.condB; exact rfl; all_goals intro _)))
    refine W.loop1 outs.length (fun k => k ≤ outs.length) (fun k => [(10, .slice a3 (outs.map (injL v p o)).length c3), (11, .slice a4 (wvalues n ins).length c4), (12, .slice a5 (wvalues (injNet n v p o) ins).length c5), (13, u64 (shownF (wvalues n ins) (wvalues (injNet n v p o) ins) (injL v p o) (outs.take k))), (33, .slice rb outs.length cb), (34, .int .i64 outs.length), (35, .int .i64 k)]) (by omega) (fun k h => h) ⟨rfl, rfl, rfl, rfl, rfl, rfl, rfl, trivial⟩ ?_
    rintro k hkk
    by_cases hlt : k < outs.length
    · obtain ⟨z, hz⟩ := getI outs hlt
      have hzk := hk z (List.mem_of_getElem? hz)
      have hyk := injL_le (v := v) (p := p) (o := o) hzk
      have hzm : (outs.map (injL v p o))[k]? = some (injL v p o z) := by rw [List.getElem?_map, hz]; rfl
      have e1 := shownF_snoc (wvalues n ins) (wvalues (injNet n v p o) ins) (injL v p o) hz
      have hml : (outs.map (injL v p o)).length = outs.length := by simp
      repeat' (first
        | (apply WL.gT; exact rfl; exact rfl; (focus (exact dec_true (by omega); done)))
        | (apply WL.gF; exact rfl; exact rfl; (focus (exact dec_true (by omega); done)))
        | (apply QL.gT; exact rfl; exact rfl; (focus (exact dec_true (by omega); done)))
        | (apply QL.gF; exact rfl; exact rfl; (focus (exact dec_true (by omega); done)))
        | (apply W.condKT; exact rfl; (focus (exact dec_true (by omega); done)))
        | (apply W.condKF; exact rfl; (focus (exact dec_true (by omega); done)))
        | (apply WL.uand; exact rfl; exact rfl; exact rfl; exact rfl; (first | exact rfl | exact u64_lit _ (by omega)); (first | exact rfl | exact u64_lit _ (by omega)))
        | (apply WL.uor; exact rfl; exact rfl; exact rfl; exact rfl; (first | exact rfl | exact u64_lit _ (by omega)); (first | exact rfl | exact u64_lit _ (by omega)))
        | (apply WL.uxor; exact rfl; exact rfl; exact rfl; exact rfl; (first | exact rfl | exact u64_lit _ (by omega)); (first | exact rfl | exact u64_lit _ (by omega)))
        | (apply WL.uandn; exact rfl; exact rfl; exact rfl; exact rfl; (first | exact rfl | exact u64_lit _ (by omega)); (first | exact rfl | exact u64_lit _ (by omega)))
        | (apply WL.uadd; exact rfl; exact rfl; exact rfl; exact rfl; (first | exact rfl | exact u64_lit _ (by omega)); (first | exact rfl | exact u64_lit _ (by omega)))
        | (apply WL.umul; exact rfl; exact rfl; exact rfl; exact rfl; (first | exact rfl | exact u64_lit _ (by omega)); (first | exact rfl | exact u64_lit _ (by omega)))
        | (apply WL.uquo; exact rfl; exact rfl; exact rfl; exact rfl; (first | exact rfl | exact u64_lit _ (by omega)); (first | exact rfl | exact u64_lit _ (by omega)); omega)
        | (apply WL.urem; exact rfl; exact rfl; exact rfl; exact rfl; (first | exact rfl | exact u64_lit _ (by omega)); (first | exact rfl | exact u64_lit _ (by omega)); omega)
        | (apply WL.ushr; exact rfl; exact rfl; exact rfl; exact rfl; (first | exact rfl | exact u64_lit _ (by omega)); omega)
        | (apply WL.ushl; exact rfl; exact rfl; exact rfl; exact rfl; (first | exact rfl | exact u64_lit _ (by omega)); omega)
        | (apply WL.unot; exact rfl; exact rfl; exact rfl; (first | exact rfl | exact u64_lit _ (by omega)))
        | (apply QL.uand; exact rfl; exact rfl; exact rfl; exact rfl; (first | exact rfl | exact u64_lit _ (by omega)); (first | exact rfl | exact u64_lit _ (by omega)))
        | (apply QL.uor; exact rfl; exact rfl; exact rfl; exact rfl; (first | exact rfl | exact u64_lit _ (by omega)); (first | exact rfl | exact u64_lit _ (by omega)))
        | (apply QL.uxor; exact rfl; exact rfl; exact rfl; exact rfl; (first | exact rfl | exact u64_lit _ (by omega)); (first | exact rfl | exact u64_lit _ (by omega)))
        | (apply QL.uandn; exact rfl; exact rfl; exact rfl; exact rfl; (first | exact rfl | exact u64_lit _ (by omega)); (first | exact rfl | exact u64_lit _ (by omega)))
        | (apply QL.uadd; exact rfl; exact rfl; exact rfl; exact rfl; (first | exact rfl | exact u64_lit _ (by omega)); (first | exact rfl | exact u64_lit _ (by omega)))
        | (apply QL.umul; exact rfl; exact rfl; exact rfl; exact rfl; (first | exact rfl | exact u64_lit _ (by omega)); (first | exact rfl | exact u64_lit _ (by omega)))
        | (apply QL.uquo; exact rfl; exact rfl; exact rfl; exact rfl; (first | exact rfl | exact u64_lit _ (by omega)); (first | exact rfl | exact u64_lit _ (by omega)); omega)
        | (apply QL.urem; exact rfl; exact rfl; exact rfl; exact rfl; (first | exact rfl | exact u64_lit _ (by omega)); (first | exact rfl | exact u64_lit _ (by omega)); omega)
        | (apply QL.ushr; exact rfl; exact rfl; exact rfl; exact rfl; (first | exact rfl | exact u64_lit _ (by omega)); omega)
        | (apply QL.ushl; exact rfl; exact rfl; exact rfl; exact rfl; (first | exact rfl | exact u64_lit _ (by omega)); omega)
        | (apply QL.unot; exact rfl; exact rfl; exact rfl; (first | exact rfl | exact u64_lit _ (by omega)))
        | ((show WL _ _ _ (⟨_, .call ⟨.value (.func 105), _, _⟩, _, _, _, _⟩ :: _) _ _ _); apply WL.callS; exact rfl; exact rfl; exact rfl; exact rfl; exact sim_Word _ _ (wvalues n ins) z _ RW1b (by unfold inI64; omega))
        | ((show QL _ _ _ _ (⟨_, .call ⟨.value (.func 105), _, _⟩, _, _, _, _⟩ :: _) _ _); apply QL.callS; exact rfl; exact rfl; exact rfl; exact rfl; exact sim_Word _ _ (wvalues n ins) z _ RW1b (by unfold inI64; omega))
        | ((show WL _ _ _ (⟨_, .call ⟨.value (.func 105), _, _⟩, _, _, _, _⟩ :: _) _ _ _); apply WL.callS; exact rfl; exact rfl; exact rfl; exact rfl; exact sim_Word _ _ (wvalues (injNet n v p o) ins) (injL v p o z) _ RW2 (by unfold inI64; omega))
        | ((show QL _ _ _ _ (⟨_, .call ⟨.value (.func 105), _, _⟩, _, _, _, _⟩ :: _) _ _); apply QL.callS; exact rfl; exact rfl; exact rfl; exact rfl; exact sim_Word _ _ (wvalues (injNet n v p o) ins) (injL v p o z) _ RW2 (by unfold inI64; omega))
        | (show WL _ _ _ _ _ _ _; first | apply WL.nil | (apply WL.pev tOk; exact rfl; exact rfl; exact rfl) | (apply WL.load tOk; exact rfl; exact rfl; exact rfl; exact rfl; exact rfl; (first | assumption | (focus (apply Ext.cell; rotate_left; assumption; (exact extA); done)))) | (apply WL.index tOk; exact rfl; exact rfl; exact rfl; exact rfl; exact rfl; exact rfl; exact rfl; exact rfl; assumption; (exact extA); exact rfl; omega; assumption; intro b off h; have hcc := h; first | (obtain ⟨h1, h2, h3, h4, h5, h6, _⟩ := h) | (obtain ⟨h1, h2, h3, _⟩ := h) | (obtain ⟨h1, h2, _⟩ := h) | (obtain ⟨h1, _⟩ := h)) | (apply WL.add; exact rfl; exact rfl; exact rfl; exact rfl; omega) | (apply WL.sub; exact rfl; exact rfl; exact rfl; exact rfl; omega) | (apply WL.mul; exact rfl; exact rfl; exact rfl; exact rfl; omega) | (apply WL.quo; exact rfl; exact rfl; exact rfl; exact rfl; omega) | (apply WL.rem; exact rfl; exact rfl; exact rfl; exact rfl; omega) | (apply WL.loadA tOk; exact rfl; exact rfl; exact rfl; exact rfl; exact rfl; (first | assumption | (focus (apply Cells.ext; rotate_left; assumption; (exact extA); done))); exact rfl) | (apply WL.guardF; exact rfl; exact rfl) | (apply WL.gD; exact rfl; exact rfl; all_goals intro _) | (apply WL.gN; exact rfl; exact rfl; all_goals intro _) | (apply WL.gB; exact rfl; exact rfl; all_goals intro _))
        | (show QL _ _ _ _ _ _ _; first | apply QL.nil | (apply QL.pev tOk; exact rfl; exact rfl; exact rfl) | (apply QL.load tOk; exact rfl; exact rfl; exact rfl; exact rfl; exact rfl; (first | assumption | (focus (apply Ext.cell; rotate_left; assumption; (exact extA); done)))) | (apply QL.index tOk; exact rfl; exact rfl; exact rfl; exact rfl; exact rfl; exact rfl; exact rfl; exact rfl; assumption; (exact extA); exact rfl; omega; assumption; intro b off h; have hcc := h; first | (obtain ⟨h1, h2, h3, h4, h5, h6, _⟩ := h) | (obtain ⟨h1, h2, h3, _⟩ := h) | (obtain ⟨h1, h2, _⟩ := h) | (obtain ⟨h1, _⟩ := h)) | (apply QL.add; exact rfl; exact rfl; exact rfl; exact rfl; omega) | (apply QL.sub; exact rfl; exact rfl; exact rfl; exact rfl; omega) | (apply QL.mul; exact rfl; exact rfl; exact rfl; exact rfl; omega) | (apply QL.quo; exact rfl; exact rfl; exact rfl; exact rfl; omega) | (apply QL.rem; exact rfl; exact rfl; exact rfl; exact rfl; omega) | (apply QL.loadA tOk; exact rfl; exact rfl; exact rfl; exact rfl; exact rfl; (first | assumption | (focus (apply Cells.ext; rotate_left; assumption; (exact extA); done))); exact rfl) | (apply QL.guardF; exact rfl; exact rfl) | (apply QL.gD; exact rfl; exact rfl; all_goals intro _) | (apply QL.gN; exact rfl; exact rfl; all_goals intro _) | (apply QL.gB; exact rfl; exact rfl; all_goals intro _))
        | (show Z _ _ _ _ _; first | apply Z.tail | apply Z.then_normal | apply Z.block_normal | apply Z.then_exit | apply Z.block_exit | apply Z.then_ret | apply Z.block_ret | (apply Z.block_other; exact rfl))
        | (show W _ _ _ _ _ _; first | apply W.seq | apply W.region | apply W.block | apply W.skip | apply W.ret | apply W.exit | (apply W.condT; exact rfl) | (apply W.condF; exact rfl) | (apply W.condD; exact rfl; all_goals intro _) | (apply W.condN; exact rfl; all_goals intro _) | (apply W.condB; exact rfl; all_goals intro _) | (apply W.regionD tMix; kernel_rfl)))
      exact Z.again1 (by omega) (by repeat' first | exact trivial | (refine And.intro ?_ ?_) | exact rfl | (rw [e1]; exact rfl))
    · obtain rfl : k = outs.length := by omega
      rw [List.take_length]
      repeat' (first
        | (apply WL.gT; exact rfl; exact rfl; (focus (exact dec_false (by omega); done)))
        | (apply WL.gF; exact rfl; exact rfl; (focus (exact dec_false (by omega); done)))
        | (apply W.condKT; exact rfl; (focus (exact dec_false (by omega); done)))
        | (apply W.condKF; exact rfl; (focus (exact dec_false (by omega); done)))
        | (show WL _ _ _ _ _ _ _; first | apply WL.nil | (apply WL.pev tOk; exact rfl; exact rfl; exact rfl) | (apply WL.load tOk; exact rfl; exact rfl; exact rfl; exact rfl; exact rfl; (first | assumption | (focus (apply Ext.cell; rotate_left; assumption; (exact extA); done)))) | (apply WL.index tOk; exact rfl; exact rfl; exact rfl; exact rfl; exact rfl; exact rfl; exact rfl; exact rfl; assumption; (exact extA); exact rfl; omega; assumption; intro b off h; have hcc := h; first | (obtain ⟨h1, h2, h3, h4, h5, h6, _⟩ := h) | (obtain ⟨h1, h2, h3, _⟩ := h) | (obtain ⟨h1, h2, _⟩ := h) | (obtain ⟨h1, _⟩ := h)) | (apply WL.add; exact rfl; exact rfl; exact rfl; exact rfl; omega) | (apply WL.sub; exact rfl; exact rfl; exact rfl; exact rfl; omega) | (apply WL.mul; exact rfl; exact rfl; exact rfl; exact rfl; omega) | (apply WL.quo; exact rfl; exact rfl; exact rfl; exact rfl; omega) | (apply WL.rem; exact rfl; exact rfl; exact rfl; exact rfl; omega) | (apply WL.loadA tOk; exact rfl; exact rfl; exact rfl; exact rfl; exact rfl; (first | assumption | (focus (apply Cells.ext; rotate_left; assumption; (exact extA); done))); exact rfl) | (apply WL.guardF; exact rfl; exact rfl) | (apply WL.gD; exact rfl; exact rfl; all_goals intro _) | (apply WL.gN; exact rfl; exact rfl; all_goals intro _) | (apply WL.gB; exact rfl; exact rfl; all_goals intro _))
        | (show Z _ _ _ _ _; first | apply Z.tail | apply Z.then_normal | apply Z.block_normal | apply Z.then_exit | apply Z.block_exit | apply Z.then_ret | apply Z.block_ret | (apply Z.block_other; exact rfl))
        | (show W _ _ _ _ _ _; first | apply W.seq | apply W.region | apply W.block | apply W.skip | apply W.ret | apply W.exit | (apply W.condT; exact rfl) | (apply W.condF; exact rfl) | (apply W.condD; exact rfl; all_goals intro _) | (apply W.condN; exact rfl; all_goals intro _) | (apply W.condB; exact rfl; all_goals intro _)))
      exact Z.body1 Try.results41 rfl fun m => ⟨rfl, hxw4.at m⟩
  · have e : fwords n outs v p o ins = 0#64 := by unfold fwords; rw [dec_false hf]; rfl
    rw [e]
    refine Spec.of _ Try.func41 rfl Try.ntmps41 (by kernel_rfl) rfl ?_
    repeat' (first
      | (apply WL.box; exact rfl; exact rfl; exact rfl; intro gb w' hb hge hc hx; have hcc := hc; first | (obtain ⟨h1, h2, h3, _⟩ := hc) | (obtain ⟨h1, h2, _⟩ := hc))
      | ((show WL _ _ _ (⟨_, .call ⟨.value (.func 103), _, _⟩, _, _, _, _⟩ :: _) _ _ _); apply WL.callP; exact rfl; exact rfl; exact rfl; exact rfl; exact fault_Good _ _ n v p o _ (R.ext (by (exact extA))) hv; intro w' hx)
      | (apply WL.gT; exact rfl; exact rfl; (focus ((rw [dec_false hf]; rfl); done)))
      | (apply WL.gF; exact rfl; exact rfl; (focus ((rw [dec_false hf]; rfl); done)))
      | (apply W.condKT; exact rfl; (focus ((rw [dec_false hf]; rfl); done)))
      | (apply W.condKF; exact rfl; (focus ((rw [dec_false hf]; rfl); done)))
      | (show WL _ _ _ _ _ _ _; first | apply WL.nil | (apply WL.pev tOk; exact rfl; exact rfl; exact rfl) | (apply WL.load tOk; exact rfl; exact rfl; exact rfl; exact rfl; exact rfl; (first | assumption | (focus (apply Ext.cell; rotate_left; assumption; (exact extA); done)))) | (apply WL.index tOk; exact rfl; exact rfl; exact rfl; exact rfl; exact rfl; exact rfl; exact rfl; exact rfl; assumption; (exact extA); exact rfl; omega; assumption; intro b off h; have hcc := h; first | (obtain ⟨h1, h2, h3, h4, h5, h6, _⟩ := h) | (obtain ⟨h1, h2, h3, _⟩ := h) | (obtain ⟨h1, h2, _⟩ := h) | (obtain ⟨h1, _⟩ := h)) | (apply WL.add; exact rfl; exact rfl; exact rfl; exact rfl; omega) | (apply WL.sub; exact rfl; exact rfl; exact rfl; exact rfl; omega) | (apply WL.mul; exact rfl; exact rfl; exact rfl; exact rfl; omega) | (apply WL.quo; exact rfl; exact rfl; exact rfl; exact rfl; omega) | (apply WL.rem; exact rfl; exact rfl; exact rfl; exact rfl; omega) | (apply WL.loadA tOk; exact rfl; exact rfl; exact rfl; exact rfl; exact rfl; (first | assumption | (focus (apply Cells.ext; rotate_left; assumption; (exact extA); done))); exact rfl) | (apply WL.guardF; exact rfl; exact rfl) | (apply WL.gD; exact rfl; exact rfl; all_goals intro _) | (apply WL.gN; exact rfl; exact rfl; all_goals intro _) | (apply WL.gB; exact rfl; exact rfl; all_goals intro _))
      | (show Z _ _ _ _ _; first | apply Z.tail | apply Z.then_normal | apply Z.block_normal | apply Z.then_exit | apply Z.block_exit | apply Z.then_ret | apply Z.block_ret | (apply Z.block_other; exact rfl))
      | (show W _ _ _ _ _ _; first | apply W.seq | apply W.region | apply W.block | apply W.skip | apply W.ret | apply W.exit | (apply W.condT; exact rfl) | (apply W.condF; exact rfl) | (apply W.condD; exact rfl; all_goals intro _) | (apply W.condN; exact rfl; all_goals intro _) | (apply W.condB; exact rfl; all_goals intro _)))
    exact Z.body1 Try.results41 rfl fun m => ⟨rfl, Ext.at (by (exact extA)) m⟩

theorem bit0 (u : BitVec 64) : dec (((u &&& BitVec.ofInt 64 1).toNat : Int) = 1) = u.getLsbD 0 := by
  have := bit_and u 0
  rwa [BitVec.ushiftRight_zero] at this
set_option maxHeartbeats 4000000 in
theorem fsim_Detects (ra rb ri : Option Addr) (cap cb ci : Nat) (n : List (Int × Int)) (outs : List Int) (v p : Int) (o : Bool) (ins : List Bool) (w : World) (R : Row 2 encN w ra n) (Rb : Row 1 encI w rb outs) (Ri : Row 1 encB w ri ins) (hna : ra = none → cap = 0) (hnb : rb = none → cb = 0) (hci : ins.length ≤ ci) (hi : ins.length ≤ 1048576) (hg : GoodNet n) (hn : n.length ≤ 1048576) (ho : outs.length ≤ 1048576) (hv : inI64 v) (hk : ∀ l ∈ outs, 0 ≤ l ∧ l ≤ 2 * (n.length : Int) + 1) :
    Pure Try.prog 39 [.slice ra n.length cap, .slice rb outs.length cb, fv v p o, .slice ri ins.length ci] w (.bool (dec (detP n outs v p o ins))) := by
  have hp1 := pack_one ri ci ins
  have hfb := fwords_bit (v := v) (p := p) (o := o) hg hk (pack [(ri, ci, ins)]) (i := 0) (by omega)
  rw [hp1.2] at hfb
  refine Spec.of _ Try.func39 rfl Try.ntmps39 (by kernel_rfl) rfl ?_
  repeat' (first
    | (show WL _ _ _ _ _ _ _; first | apply WL.nil | (apply WL.pev tOk; exact rfl; exact rfl; exact rfl) | (apply WL.load tOk; exact rfl; exact rfl; exact rfl; exact rfl; exact rfl; (first | assumption | (focus (apply Ext.cell; rotate_left; assumption; (exact extA); done)))) | (apply WL.index tOk; exact rfl; exact rfl; exact rfl; exact rfl; exact rfl; exact rfl; exact rfl; exact rfl; assumption; (exact extA); exact rfl; omega; assumption; intro b off h; have hcc := h; first | (obtain ⟨h1, h2, h3, h4, h5, h6, _⟩ := h) | (obtain ⟨h1, h2, h3, _⟩ := h) | (obtain ⟨h1, h2, _⟩ := h) | (obtain ⟨h1, _⟩ := h)) | (apply WL.add; exact rfl; exact rfl; exact rfl; exact rfl; omega) | (apply WL.sub; exact rfl; exact rfl; exact rfl; exact rfl; omega) | (apply WL.mul; exact rfl; exact rfl; exact rfl; exact rfl; omega) | (apply WL.quo; exact rfl; exact rfl; exact rfl; exact rfl; omega) | (apply WL.rem; exact rfl; exact rfl; exact rfl; exact rfl; omega) | (apply WL.loadA tOk; exact rfl; exact rfl; exact rfl; exact rfl; exact rfl; (first | assumption | (focus (apply Cells.ext; rotate_left; assumption; (exact extA); done))); exact rfl) | (apply WL.guardF; exact rfl; exact rfl) | (apply WL.gD; exact rfl; exact rfl; all_goals intro _) | (apply WL.gN; exact rfl; exact rfl; all_goals intro _) | (apply WL.gB; exact rfl; exact rfl; all_goals intro _))
    | (show Z _ _ _ _ _; first | apply Z.tail | apply Z.then_normal | apply Z.block_normal | apply Z.then_exit | apply Z.block_exit | apply Z.then_ret | apply Z.block_ret | (apply Z.block_other; exact rfl))
    | (show W _ _ _ _ _ _; first | apply W.seq | apply W.region | apply W.block | apply W.skip | apply W.ret | apply W.exit | (apply W.condT; exact rfl) | (apply W.condF; exact rfl) | (apply W.condD; exact rfl; all_goals intro _) | (apply W.condN; exact rfl; all_goals intro _) | (apply W.condB; exact rfl; all_goals intro _)))
  apply WL.box; exact rfl; exact rfl; exact rfl; intro gb w' hb hge hc hx
  obtain ⟨g6, rfl⟩ : ∃ x, x = gb := ⟨_, rfl⟩; obtain ⟨wb, rfl⟩ : ∃ x, x = w' := ⟨_, rfl⟩
  have hc6 : Cells wb g6 0 [.int .i64 v, .int .i64 p, .bool o] := hc
  have hXb : Ext w wb := hx
  have hbs : ∀ r ∈ [((ri, ci, ins) : BRow)], r.2.2.length ≤ 1048576 := fun r hr => by
    have : r = (ri, ci, ins) := by simpa using hr
    subst this; exact hi
  have hri : ∀ w9, Ext w w9 → RowsIn w9 [(ri, ci, ins)] := fun w9 h9 r hr => by
    have h8 : r = (ri, ci, ins) := by simpa using hr
    subst h8; exact ⟨Ri.ext h9, hci⟩
  repeat' (first
    | (apply WL.uand; exact rfl; exact rfl; exact rfl; exact rfl; (first | exact rfl | exact u64_lit _ (by omega)); (first | exact rfl | exact u64_lit _ (by omega)))
    | (apply WL.uor; exact rfl; exact rfl; exact rfl; exact rfl; (first | exact rfl | exact u64_lit _ (by omega)); (first | exact rfl | exact u64_lit _ (by omega)))
    | (apply WL.uxor; exact rfl; exact rfl; exact rfl; exact rfl; (first | exact rfl | exact u64_lit _ (by omega)); (first | exact rfl | exact u64_lit _ (by omega)))
    | (apply WL.uandn; exact rfl; exact rfl; exact rfl; exact rfl; (first | exact rfl | exact u64_lit _ (by omega)); (first | exact rfl | exact u64_lit _ (by omega)))
    | (apply WL.uadd; exact rfl; exact rfl; exact rfl; exact rfl; (first | exact rfl | exact u64_lit _ (by omega)); (first | exact rfl | exact u64_lit _ (by omega)))
    | (apply WL.umul; exact rfl; exact rfl; exact rfl; exact rfl; (first | exact rfl | exact u64_lit _ (by omega)); (first | exact rfl | exact u64_lit _ (by omega)))
    | (apply WL.uquo; exact rfl; exact rfl; exact rfl; exact rfl; (first | exact rfl | exact u64_lit _ (by omega)); (first | exact rfl | exact u64_lit _ (by omega)); omega)
    | (apply WL.urem; exact rfl; exact rfl; exact rfl; exact rfl; (first | exact rfl | exact u64_lit _ (by omega)); (first | exact rfl | exact u64_lit _ (by omega)); omega)
    | (apply WL.ushr; exact rfl; exact rfl; exact rfl; exact rfl; (first | exact rfl | exact u64_lit _ (by omega)); omega)
    | (apply WL.ushl; exact rfl; exact rfl; exact rfl; exact rfl; (first | exact rfl | exact u64_lit _ (by omega)); omega)
    | (apply WL.unot; exact rfl; exact rfl; exact rfl; (first | exact rfl | exact u64_lit _ (by omega)))
    | (apply W.regionG (.fl true 0 (.fl true 1 (.fl true 3 (.fl false 2 (.br 4 (.br 5 (.br 6 (.br 7 (.fl true 8 (.fl true 9 .done)) .stop) .stop) .stop) .stop))))) [4, 5, 7, 8] (Ext wb) tMix; kernel_rfl)
    | (apply WL.lit tOk; exact rfl; exact rfl; exact rfl; exact rfl; exact rfl; exact rfl; (first | exact rfl | kernel_rfl | (simp [Instr.fill, catCells]; done)); exact rfl; intro gb w' hb hge hc hx; have hO := Own.of_block ([(ri, ci, ins)]) encR_ok hb hge rfl)
    | ((show WL _ _ _ (⟨_, .call ⟨.value (.func 99), _, _⟩, _, _, _, _⟩ :: _) _ _ _); apply WL.call; exact rfl; exact rfl; exact rfl; exact rfl; exact sim_Pack _ _ [(ri, ci, ins)] _ (Own.row encR_ok (by assumption)) (Nat.le_refl _) (hri _ (by (exact extA))) hbs; rintro v' w' ⟨hx, a', cap', rfl, hO⟩)
    | ((show WL _ _ _ (⟨_, .call ⟨.value (.func 41), _, _⟩, _, _, _, _⟩ :: _) _ _ _); apply WL.callP; exact rfl; exact rfl; exact rfl; exact rfl; exact fsim_Words _ _ _ _ _ _ n outs v p o (pack [(ri, ci, ins)]) _ (R.ext (by (exact extA))) (Rb.ext (by (exact extA))) (Own.row encV_ok (by assumption)) hna hnb (Own.capLe (by assumption)) hg hn ho hv hk; intro w' hx)
    | (show WL _ _ _ _ _ _ _; first | apply WL.nil | (apply WL.pev tOk; exact rfl; exact rfl; exact rfl) | (apply WL.load tOk; exact rfl; exact rfl; exact rfl; exact rfl; exact rfl; (first | assumption | (focus (apply Ext.cell; rotate_left; assumption; (exact extA); done)))) | (apply WL.index tOk; exact rfl; exact rfl; exact rfl; exact rfl; exact rfl; exact rfl; exact rfl; exact rfl; assumption; (exact extA); exact rfl; omega; assumption; intro b off h; have hcc := h; first | (obtain ⟨h1, h2, h3, h4, h5, h6, _⟩ := h) | (obtain ⟨h1, h2, h3, _⟩ := h) | (obtain ⟨h1, h2, _⟩ := h) | (obtain ⟨h1, _⟩ := h)) | (apply WL.add; exact rfl; exact rfl; exact rfl; exact rfl; omega) | (apply WL.sub; exact rfl; exact rfl; exact rfl; exact rfl; omega) | (apply WL.mul; exact rfl; exact rfl; exact rfl; exact rfl; omega) | (apply WL.quo; exact rfl; exact rfl; exact rfl; exact rfl; omega) | (apply WL.rem; exact rfl; exact rfl; exact rfl; exact rfl; omega) | (apply WL.loadA tOk; exact rfl; exact rfl; exact rfl; exact rfl; exact rfl; (first | assumption | (focus (apply Cells.ext; rotate_left; assumption; (exact extA); done))); exact rfl) | (apply WL.guardF; exact rfl; exact rfl) | (apply WL.gD; exact rfl; exact rfl; all_goals intro _) | (apply WL.gN; exact rfl; exact rfl; all_goals intro _) | (apply WL.gB; exact rfl; exact rfl; all_goals intro _))
    | (show SG _ _ _ _ _ _ _ _ _; first | apply SG.done | apply SG.stop | (apply SG.fl0; exact rfl) | (apply SG.fl1; exact rfl; (focus ((intro m; first | assumption | (apply Ext.at; (exact extA)) | apply But.of_at; first | exact But.upd (by assumption) | exact But.ext (by (exact extA)) | (refine But.trans ?_ (But.upd (by assumption)); exact But.ext (by (exact extA))) | exact But.at _ _ _); done))) | (apply SG.br1; exact rfl) | (apply SG.br; exact rfl))
    | (show FL _ _ _ _ _ _ _ _; first | (apply FL.loadE tOk; exact rfl; exact rfl; exact rfl; exact rfl; exact rfl; assumption) | (apply FL.loadAE tOk; exact rfl; exact rfl; exact rfl; exact rfl; exact rfl; assumption; exact rfl) | (apply FL.indexE tOk; exact rfl; exact rfl; exact rfl; exact rfl; exact rfl; exact rfl; exact rfl; exact rfl; assumption; exact rfl; omega; assumption; intro b off h; have hcc := h; first | (obtain ⟨h1, h2, h3, h4, h5, h6, _⟩ := h) | (obtain ⟨h1, h2, h3, _⟩ := h) | (obtain ⟨h1, h2, _⟩ := h) | (obtain ⟨h1, _⟩ := h)))
    | (show FL _ _ _ _ _ _ _ _; first | apply FL.nilS | (apply FL.pev tOk; exact rfl; exact rfl; exact rfl) | (apply FL.loadG tOk; exact rfl; exact rfl; exact rfl; exact rfl; exact rfl; (first | assumption | (focus (apply Ext.cell; rotate_left; assumption; (exact extA); done))); (first | (focus (intro h; cases h; done)) | (focus (intro h; have h9 := hBC _ h; (try simp only at h9); omega)) | assumption | (focus (intro h; simp only [blk, Option.map_some, Option.some.injEq] at h; omega)))) | (apply FL.index tOk; exact rfl; exact rfl; exact rfl; exact rfl; exact rfl; exact rfl; exact rfl; exact rfl; assumption; (exact extA); exact rfl; omega; assumption; exact List.cons_ne_nil _ _; intro b off h hbl; have hcc := h; first | (obtain ⟨h1, h2, h3, h4, h5, h6, _⟩ := h) | (obtain ⟨h1, h2, h3, _⟩ := h) | (obtain ⟨h1, h2, _⟩ := h) | (obtain ⟨h1, _⟩ := h)) | (apply FL.add; exact rfl; exact rfl; exact rfl; exact rfl; omega) | (apply FL.sub; exact rfl; exact rfl; exact rfl; exact rfl; omega) | (apply FL.mul; exact rfl; exact rfl; exact rfl; exact rfl; omega) | (apply FL.quo; exact rfl; exact rfl; exact rfl; exact rfl; omega) | (apply FL.rem; exact rfl; exact rfl; exact rfl; exact rfl; omega) | (apply FL.loadAG tOk; exact rfl; exact rfl; exact rfl; exact rfl; exact rfl; (first | assumption | (focus (apply Cells.ext; rotate_left; assumption; (exact extA); done))); exact rfl; (first | (focus (intro h; cases h; done)) | (focus (intro h; have h9 := hBC _ h; (try simp only at h9); omega)) | assumption | (focus (intro h; simp only [blk, Option.map_some, Option.some.injEq] at h; omega)))) | (apply FL.guardF; exact rfl; exact rfl) | (apply FL.gD; exact rfl; exact rfl; all_goals intro _) | (apply FL.gN; exact rfl; exact rfl; all_goals intro _) | (apply FL.gB; exact rfl; exact rfl; all_goals intro _))
    | (show Z _ _ _ _ _; first | (apply Z.sgL; exact rfl) | (apply Z.sgE; (focus ((intro m; first | assumption | (apply Ext.at; (exact extA)) | apply But.of_at; first | exact But.upd (by assumption) | exact But.ext (by (exact extA)) | (refine But.trans ?_ (But.upd (by assumption)); exact But.ext (by (exact extA))) | exact But.at _ _ _); done))))
    | (show Z _ _ _ _ _; first | apply Z.tail | apply Z.then_normal | apply Z.block_normal | apply Z.then_exit | apply Z.block_exit | apply Z.then_ret | apply Z.block_ret | (apply Z.block_other; exact rfl))
    | (show W _ _ _ _ _ _; first | apply W.seq | apply W.region | apply W.block | apply W.skip | apply W.ret | apply W.exit | (apply W.condT; exact rfl) | (apply W.condF; exact rfl) | (apply W.condD; exact rfl; all_goals intro _) | (apply W.condN; exact rfl; all_goals intro _) | (apply W.condB; exact rfl; all_goals intro _)))
  all_goals exact Z.body1 Try.results39 rfl fun m => ⟨congrArg Value.bool (by rw [← hfb, ← bit0]), Ext.at (by (exact extA)) m⟩
end Go.Proofs.Ytfkdlepemiepdaa
