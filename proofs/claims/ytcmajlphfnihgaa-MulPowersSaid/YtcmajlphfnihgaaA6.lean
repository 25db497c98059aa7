/- Operations that touch no memory. -/
import Derived.Test.YtcmajlphfnihgaaA5
import Derived.Laws.Concat
import Derived.Laws.Strings
import Derived.Laws.Shifts
set_option linter.unusedVariables false
set_option linter.unusedSimpArgs false
namespace Go.Proofs.YtcmajlphfnihgaaA
open Go
variable {P : Program} {w w' : World} {S : Nat → Prop} {φ φ' : Phi} {h h' : Heap}

theorem VRel.int_inv {v : Value} {k : IntKind} {n : Int} (r : VRel w S φ v (.int k n)) : v = .int k n := by cases r; rfl
theorem VRel.str_inv {v : Value} {s : ByteArray} (r : VRel w S φ v (.str s)) : v = .string s := by cases r; rfl
theorem VRel.bool_inv {v : Value} {b : Bool} (r : VRel w S φ v (.bool b)) : v = .bool b := by cases r; rfl
theorem VRel.nilP_inv {v : Value} (r : VRel w S φ v .nilP) : v = .pointer none := by cases r; rfl
theorem VRel.ptr_inv {v : Value} {cs : List D} (r : VRel w S φ v (.ptr cs)) : ∃ a, v = .pointer (some a) := by cases r; exact ⟨_, rfl⟩
theorem VRel.pref_inv {v : Value} {b u i o : Nat} (r : VRel w S φ v (.pref b u i o)) : ∃ a, v = .pointer (some a) := by cases r; exact ⟨_, rfl⟩
theorem VRel.nilS_inv {v : Value} (r : VRel w S φ v .nilS) : ∃ a, v = .slice a 0 0 := by cases r; exact ⟨_, rfl⟩

theorem str_ext {x y : ByteArray} (e : x.toList = y.toList) : x = y := by
  rw [ByteArray.toList_eq, ByteArray.toList_eq] at e
  cases x; cases y; congr; exact Array.toList_inj.1 e
theorem str_eq (x y : ByteArray) : (x.toList == y.toList) = decide (x = y) := by
  rw [Bool.eq_iff_iff]
  simp only [beq_iff_eq, decide_eq_true_eq]
  exact ⟨str_ext, fun e => by rw [e]⟩

theorem arith_sound {op : BinOp} {k : IntKind} {x y : Int} {d : D} (e : arithD op k x y = some d) (t : TypeId) :
    ∃ v, (binOp op t (.int k x) (.int k y)).run P w = .ok v w ∧ VRel w S φ v d := by
  cases op <;> simp only [arithD, cmpD] at e
  case add => cases e; exact ⟨_, by rw [binOp_add]; rfl, .int⟩
  case sub => cases e; exact ⟨_, by rw [binOp_sub]; rfl, .int⟩
  case mul => cases e; exact ⟨_, by rw [binOp_mul]; rfl, .int⟩
  case quo =>
    by_cases h0 : y = 0
    · simp [h0] at e
    · rw [if_neg h0] at e; cases e
      exact ⟨_, by rw [binOp_quo]; simp [Op.intDiv, h0], .int⟩
  case rem =>
    by_cases h0 : y = 0
    · simp [h0] at e
    · rw [if_neg h0] at e; cases e
      exact ⟨_, by rw [binOp_rem]; simp [Op.intDiv, h0], .int⟩
  case and => cases e; exact ⟨_, by rw [binOp_and, intBits_and]; rfl, .int⟩
  case or => cases e; exact ⟨_, by rw [binOp_or, intBits_or]; rfl, .int⟩
  case xor => cases e; exact ⟨_, by rw [binOp_xor, intBits_xor]; rfl, .int⟩
  case andNot => cases e; exact ⟨_, by rw [binOp_andNot, intBits_andNot]; rfl, .int⟩
  case shl => cases e
  case shr => cases e
  case eql => cases e; exact ⟨_, by rw [binOp_eql]; rfl, .bool⟩
  case neq => cases e; exact ⟨_, by rw [binOp_neq]; rfl, by rw [show (x != y) = !decide (x = y) from rfl]; exact .bool⟩
  case lss => cases e; exact ⟨_, by rw [binOp_lss]; rfl, .bool⟩
  case leq => cases e; exact ⟨_, by rw [binOp_leq]; rfl, .bool⟩
  case gtr => cases e; exact ⟨_, by rw [binOp_gtr]; rfl, .bool⟩
  case geq => cases e; exact ⟨_, by rw [binOp_geq]; rfl, .bool⟩
theorem shift_sound {op : BinOp} {k k' : IntKind} {x y : Int} {d : D} (e : shiftD op k x y = some d) (t : TypeId) :
    ∃ v, (binOp op t (.int k x) (.int k' y)).run P w = .ok v w ∧ VRel w S φ v d := by
  cases op <;> simp only [shiftD] at e
  case shl =>
    by_cases h0 : y < 0
    · simp [h0] at e
    · rw [if_neg h0] at e; cases e
      exact ⟨_, by rw [binOp_shl, shift_shl_any _ _ _ _ (by omega)]; rfl, .int⟩
  case shr =>
    by_cases h0 : y < 0
    · simp [h0] at e
    · rw [if_neg h0] at e; cases e
      exact ⟨_, by rw [binOp_shr, shift_shr_any _ _ _ _ (by omega)]; rfl, .int⟩
  all_goals cases e
theorem strD_sound {op : BinOp} {x y : ByteArray} {d : D} (e : strD op x y = some d) (t : TypeId) :
    ∃ v, (binOp op t (.string x) (.string y)).run P w = .ok v w ∧ VRel w S φ v d := by
  have hb : ∀ op, (binOp op t (.string x) (.string y)) = Op.stringOp op x y := fun op => by cases op <;> rfl
  rw [hb]
  cases op <;> simp only [strD] at e
  case add =>
    by_cases h0 : x.size + y.size ≤ 9223372036854775807
    · rw [if_pos h0] at e; cases e
      refine ⟨_, ?_, .str⟩
      have : ¬ (((x.size + y.size : Nat) : Int) > IntKind.i64.max) := by
        have : IntKind.i64.max = 9223372036854775807 := by decide
        rw [this]; omega
      simp only [Op.stringOp, this, if_false]; rfl
    · rw [if_neg h0] at e; cases e
  case eql => cases e; exact ⟨_, rfl, by rw [str_eq]; exact .bool⟩
  case neq => cases e; exact ⟨_, rfl, by rw [str_eq]; exact .bool⟩
  case lss => cases e; exact ⟨_, rfl, .bool⟩
  case leq => cases e; exact ⟨_, rfl, by rw [str_eq]; exact .bool⟩
  case gtr => cases e; exact ⟨_, rfl, by rw [str_eq]; exact .bool⟩
  case geq => cases e; exact ⟨_, rfl, .bool⟩
  all_goals cases e
theorem binD_sound {op : BinOp} {x y : Value} {a b d : D} (e : binD op a b = some d) (ra : VRel w S φ x a) (rb : VRel w S φ y b) (t : TypeId) (X Y : Operand) :
    ∃ v, (do eqGuard op t X Y x y; binOp op t x y : Sem Value).run P w = .ok v w ∧ VRel w S φ v d := by
  cases a with
  | int k n =>
    cases b with
    | int k' m =>
      obtain rfl := ra.int_inv
      obtain rfl := rb.int_inv
      rw [eqGuard_at_int]
      simp only [binD] at e
      have key : ∃ v, (binOp op t (.int k n) (.int k' m)).run P w = .ok v w ∧ VRel w S φ v d := by
        cases op <;> first
          | exact shift_sound e t
          | (by_cases hk : k = k'
             · subst hk; simp only [if_true] at e; exact arith_sound e t
             · simp only [hk, if_false] at e; cases e)
      obtain ⟨v, h1, h2⟩ := key
      exact ⟨v, by simpa using h1, h2⟩
    | _ => simp [binD] at e
  | str s =>
    cases b with
    | str s' =>
      obtain rfl := ra.str_inv
      obtain rfl := rb.str_inv
      rw [eqGuard_at_string]
      obtain ⟨v, h1, h2⟩ := strD_sound (P := P) (w := w) (S := S) (φ := φ) e t
      exact ⟨v, by simpa using h1, h2⟩
    | _ => simp [binD] at e
  | _ => simp [binD] at e
theorem equal_at {t : TypeId} {x y : Value} {b : Bool} (hk : ∀ n, (Op.equalIn (n + 1) t x y).run P w = .ok b w) : (Op.equal t x y).run P w = .ok b w := by
  unfold Op.equal
  have : Op.maxDepth = 9999 + 1 := rfl
  rw [this]
  exact hk 9999
theorem equal_bool {t : TypeId} (hu : P.underlying t = some .bool) (a b : Bool) : (Op.equal t (.bool a) (.bool b)).run P w = .ok (a == b) w :=
  equal_at fun n => by simp [Op.equalIn, run_underlying hu]
theorem equal_ptr0 {t e : TypeId} (hu : P.underlying t = some (.pointer e)) (q : Option Addr) : (Op.equal t (.pointer none) (.pointer q)).run P w = .ok q.isNone w :=
  equal_at fun n => by simp [Op.equalIn, run_underlying hu]
theorem equal_ptr1 {t e : TypeId} (hu : P.underlying t = some (.pointer e)) (q : Addr) : (Op.equal t (.pointer (some q)) (.pointer none)).run P w = .ok false w :=
  equal_at fun n => by simp [Op.equalIn, run_underlying hu]
theorem eqB_sound {op : BinOp} {b : Bool} {d : D} {t : TypeId} {x y : Value} (e : eqB op b = some d) (hq : (Op.equal t x y).run P w = .ok b w)
    (h1 : binOp .eql t x y = do pure (.bool (← Op.equal t x y))) (h2 : binOp .neq t x y = do pure (.bool (!(← Op.equal t x y)))) :
    ∃ v, (binOp op t x y).run P w = .ok v w ∧ VRel w S φ v d := by
  cases op <;> simp only [eqB] at e <;> first
    | (cases e; rw [h1]; exact ⟨.bool b, by simp [hq], .bool⟩)
    | (cases e; rw [h2]; exact ⟨.bool !b, by simp [hq], .bool⟩)
    | cases e
theorem eqD_sound {op : BinOp} {u : TypeDesc} {x y : Value} {a b d : D} {t : TypeId} (hu : P.underlying t = some u) (e : eqD op u a b = some d) (ra : VRel w S φ x a) (rb : VRel w S φ y b) (X Y : Operand) :
    ∃ v, (do eqGuard op t X Y x y; binOp op t x y : Sem Value).run P w = .ok v w ∧ VRel w S φ v d := by
  have run : ∀ {c : Bool}, eqGuard op t X Y x y = pure () → (∃ v, (binOp op t x y).run P w = .ok v w ∧ VRel w S φ v d) → ∃ v, (do eqGuard op t X Y x y; binOp op t x y : Sem Value).run P w = .ok v w ∧ VRel w S φ v d := fun {c} hg k => by
    obtain ⟨v, h1, h2⟩ := k
    exact ⟨v, by rw [hg]; simpa using h1, h2⟩
  cases u <;> try (simp [eqD] at e; done)
  case bool =>
    cases a <;> try (simp [eqD] at e; done)
    cases b <;> try (simp [eqD] at e; done)
    obtain rfl := ra.bool_inv
    obtain rfl := rb.bool_inv
    simp only [eqD] at e
    exact run (c := true) (eqGuard_at_bool ..) (eqB_sound e (equal_bool hu _ _) rfl rfl)
  case pointer el =>
    cases a <;> try (simp [eqD] at e; done)
    · obtain rfl := ra.nilP_inv
      cases b <;> try (simp [eqD] at e; done)
      · obtain rfl := rb.nilP_inv
        exact run (c := true) (eqGuard_at_pointer ..) (eqB_sound e (equal_ptr0 hu none) rfl rfl)
      · obtain ⟨q, rfl⟩ := rb.ptr_inv
        exact run (c := true) (eqGuard_at_pointer ..) (eqB_sound e (equal_ptr0 hu (some q)) rfl rfl)
      · obtain ⟨q, rfl⟩ := rb.pref_inv
        exact run (c := true) (eqGuard_at_pointer ..) (eqB_sound e (equal_ptr0 hu (some q)) rfl rfl)
    · obtain ⟨q, rfl⟩ := ra.ptr_inv
      cases b <;> try (simp [eqD] at e; done)
      obtain rfl := rb.nilP_inv
      exact run (c := true) (eqGuard_at_pointer ..) (eqB_sound e (equal_ptr1 hu q) rfl rfl)
    · obtain ⟨q, rfl⟩ := ra.pref_inv
      cases b <;> try (simp [eqD] at e; done)
      obtain rfl := rb.nilP_inv
      exact run (c := true) (eqGuard_at_pointer ..) (eqB_sound e (equal_ptr1 hu q) rfl rfl)
theorem unD_sound {op : UnOp} {x : Value} {a d : D} (e : unD op a = some d) (ra : VRel w S φ x a) : ∃ v, (Op.unary op x).run P w = .ok v w ∧ VRel w S φ v d := by
  cases a with
  | int k n =>
    obtain rfl := ra.int_inv
    cases op <;> simp only [unD] at e <;> first | cases e | skip
    · exact ⟨_, rfl, .int⟩
    · exact ⟨_, by simp only [Op.unary, intBits_xor]; rfl, .int⟩
  | bool b =>
    obtain rfl := ra.bool_inv
    cases op <;> simp only [unD] at e <;> first | cases e | skip
    exact ⟨_, rfl, .bool⟩
  | _ => simp [unD] at e
end Go.Proofs.YtcmajlphfnihgaaA
