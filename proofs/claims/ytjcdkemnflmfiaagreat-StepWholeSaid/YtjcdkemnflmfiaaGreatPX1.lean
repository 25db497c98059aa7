/- Plain lemmas on words, digits and numbers. No program, no memory. -/
import Derived.Test.YtjcdkemnflmfiaaGreatBX
import Derived.Laws.BitsLemmas
import Derived.Laws.Bits64
import Derived.Test.YtjcdkemnflmfiaaGreatWX
import Derived.Test.YtjcdkemnflmfiaaGreatW11
import Derived.Test.YtjcdkemnflmfiaaGreatW3
set_option linter.unusedVariables false
set_option linter.unusedSimpArgs false
set_option maxRecDepth 100000
namespace Go.Proofs.YtjcdkemnflmfiaaGreatA
open Go
theorem w64 (n : Int) : wu n = n % 18446744073709551616 := IntKind.wrap_u64 n
theorem wi_eq (n : Int) : wi n = (n + 9223372036854775808) % 18446744073709551616 - 9223372036854775808 := by simp [wi, IntKind.wrap, IntKind.signed, IntKind.bits]; omega
theorem w64i {n : Int} (h0 : 0 ≤ n) (h1 : n < 18446744073709551616) : wu n = n := by rw [w64]; omega
theorem s64i {n : Int} (h0 : -9223372036854775808 ≤ n) (h1 : n < 9223372036854775808) : wi n = n := by rw [wi_eq]; omega
theorem w_add {i j : Nat} (h : i + j < 9223372036854775808) : wi ((i : Int) + (j : Int)) = ((i + j : Nat) : Int) := by rw [s64i (by omega) (by omega)]; omega
theorem w_succ {i : Nat} (h : i + 1 < 9223372036854775808) : wi ((i : Int) + 1) = ((i + 1 : Nat) : Int) := by rw [s64i (by omega) (by omega)]; omega
theorem w_pred {i : Nat} (h : i < 9223372036854775808) : wi (((i + 1 : Nat) : Int) - 1) = (i : Int) := by rw [s64i (by omega) (by omega)]; omega
theorem w_add_nn {i j : Nat} (h : i + j < 9223372036854775808) : 0 ≤ wi ((i : Int) + (j : Int)) := by rw [w_add h]; exact Int.natCast_nonneg _
theorem w_add_lt {i j n : Nat} (h : i + j < 9223372036854775808) (hn : i + j < n) : wi ((i : Int) + (j : Int)) < (n : Int) := by rw [w_add h]; exact Int.ofNat_lt.2 hn
theorem wf_u64 {x : Int} (h : (Lit.int .u64 x).wf = true) : 0 ≤ x ∧ x < 18446744073709551616 := by
 simp [Lit.wf, IntKind.min, IntKind.max, IntKind.signed, IntKind.bits] at h; omega
theorem wf_u32 {x : Int} (h : (Lit.int .u32 x).wf = true) : 0 ≤ x ∧ x < 4294967296 := by
 simp [Lit.wf, IntKind.min, IntKind.max, IntKind.signed, IntKind.bits] at h; omega
theorem wraps_u64' (n : Int) (h0 : 0 ≤ n) (h1 : n < 2 ^ 64) : wu n = n := w64i h0 (by simpa using h1)
theorem and32 {x : Int} (h0 : 0 ≤ x) (h1 : x < 18446744073709551616) : Go.bits .and .u64 x 4294967295 = x % 4294967296 :=
 bits_mask .u64 64 (by decide) wraps_u64' 32 (by decide) x h0 (by simpa using h1)
theorem and1 {x : Int} (h0 : 0 ≤ x) (h1 : x < 18446744073709551616) : Go.bits .and .u64 x 1 = x % 2 :=
 bits_mask .u64 64 (by decide) wraps_u64' 1 (by decide) x h0 (by simpa using h1)
theorem or32 {x y : Int} (hx0 : 0 ≤ x) (hx : x % 4294967296 = 0) (hx1 : x < 18446744073709551616) (hy0 : 0 ≤ y) (hy : y < 4294967296) : Go.bits .or .u64 x y = x + y :=
 bits_join .u64 64 (by decide) wraps_u64' 32 x y hx0 (by simpa using hx) (by simpa using hx1) hy0 (by simpa using hy) (Int.lt_trans hy (by decide))
theorem tm {a b : Int} (h : 0 ≤ a) : Int.tmod a b = a % b := Int.tmod_eq_emod_of_nonneg h
theorem td {a b : Int} (h : 0 ≤ a) : Int.tdiv a b = a / b := Int.tdiv_eq_ediv_of_nonneg h
theorem mul_nn {x y : Int} (hx : 0 ≤ x) (hy : 0 ≤ y) : 0 ≤ x * y := Int.mul_nonneg hx hy
theorem mul_le_ {x y a b : Int} (hx0 : 0 ≤ x) (hx : x ≤ a) (hy0 : 0 ≤ y) (hy : y ≤ b) : x * y ≤ a * b :=
 Int.mul_le_mul hx hy hy0 (Int.le_trans hx0 hx)
theorem prod32 {x y : Int} (hx0 : 0 ≤ x) (hx : x < 4294967296) (hy0 : 0 ≤ y) (hy : y < 4294967296) : 0 ≤ x * y ∧ x * y ≤ 18446744065119617025 :=
 ⟨mul_nn hx0 hy0, mul_le_ hx0 (show x ≤ 4294967295 by omega) hy0 (show y ≤ 4294967295 by omega)⟩
theorem pow_pos' (n : Nat) : (0 : Int) < 2 ^ n := by
 induction n with
 | zero => decide
 | succ n ih => rw [Int.pow_succ]; omega
theorem divmod_unique {n d q r : Int} (h : q * d + r = n) (h0 : 0 ≤ r) (h1 : r < d) : n / d = q ∧ n % d = r := by
 subst h
 have hd : 0 < d := by omega
 constructor
 ·rw [Int.add_comm, Int.add_mul_ediv_right _ _ (by omega), Int.ediv_eq_zero_of_lt h0 h1]; omega
 ·rw [Int.add_comm, Int.add_mul_emod_self_right, Int.emod_eq_of_lt h0 h1]
def val (b : Int) : List Int → Int
 | [] => 0
 | x :: l => x + b * val b l
def Dig (b : Int) (l : List Int) : Prop := ∀ x ∈ l, 0 ≤ x ∧ x < b
def Norm : List Int → Prop
 | [] => True
 | [x] => x ≠ 0
 | _ :: y :: l => Norm (y :: l)

theorem val_nil (b : Int) : val b [] = 0 := rfl
theorem val_cons (b x : Int) (l : List Int) : val b (x :: l) = x + b * val b l := rfl
theorem Dig.nil (b : Int) : Dig b [] := fun _ h => by cases h
theorem Dig.cons {b x : Int} {l : List Int} (h : 0 ≤ x ∧ x < b) (hl : Dig b l) : Dig b (x :: l) := fun y hy => by
 rcases List.mem_cons.1 hy with rfl | hy
 ·exact h
 ·exact hl y hy
theorem Dig.head {b x : Int} {l : List Int} (h : Dig b (x :: l)) : 0 ≤ x ∧ x < b := h x (List.mem_cons_self ..)
theorem Dig.tail {b x : Int} {l : List Int} (h : Dig b (x :: l)) : Dig b l := fun y hy => h y (List.mem_cons_of_mem _ hy)
theorem Dig.append {b : Int} {l m : List Int} (h : Dig b l) (g : Dig b m) : Dig b (l ++ m) := fun x hx => by
 rcases List.mem_append.1 hx with hx | hx
 ·exact h x hx
 ·exact g x hx
theorem Dig.take {b : Int} {l : List Int} (h : Dig b l) (n : Nat) : Dig b (l.take n) := fun x hx => h x (List.mem_of_mem_take hx)
theorem Dig.drop {b : Int} {l : List Int} (h : Dig b l) (n : Nat) : Dig b (l.drop n) := fun x hx => h x (List.mem_of_mem_drop hx)
theorem Dig.zeros {b : Int} (hb : 0 < b) (n : Nat) : Dig b (List.replicate n 0) := fun x hx => by
 have := (List.mem_replicate.1 hx).2; omega
theorem Dig.set {b x : Int} {l : List Int} (h : Dig b l) (hx : 0 ≤ x ∧ x < b) (i : Nat) : Dig b (l.set i x) := fun y hy => by
 rcases List.mem_or_eq_of_mem_set hy with hy | rfl
 ·exact h y hy
 ·exact hx
theorem Dig.getD {b : Int} {l : List Int} (hb : 0 < b) (h : Dig b l) (i : Nat) : 0 ≤ l.getD i 0 ∧ l.getD i 0 < b := by
 rw [List.getD_eq_getElem?_getD]
 by_cases hi : i < l.length
 ·rw [List.getElem?_eq_getElem hi]; exact h _ (List.getElem_mem hi)
 ·rw [List.getElem?_eq_none (by omega)]; exact ⟨Int.le_refl _, hb⟩
theorem val_nonneg {b : Int} (hb : 0 < b) : ∀ {l : List Int}, Dig b l → 0 ≤ val b l
 | [], _ => by simp [val]
 | x :: l, h => by
  have h1 := val_nonneg hb h.tail
  have h2 := h.head
  have h3 := mul_nn (x := b) (by omega) h1
  rw [val_cons]; omega
theorem powb_pos {b : Int} (hb : 0 < b) (n : Nat) : 0 < b ^ n := Int.pow_pos hb
theorem val_lt {b : Int} (hb : 0 < b) : ∀ {l : List Int}, Dig b l → val b l < b ^ l.length
 | [], _ => by simp [val]
 | x :: l, h => by
  have h1 := val_lt hb h.tail
  have h2 := h.head
  have h3 : b * (val b l + 1) ≤ b * b ^ l.length := Int.mul_le_mul_of_nonneg_left (by omega) (by omega)
  rw [val_cons, List.length_cons, Int.pow_succ, Int.mul_comm (b ^ l.length)]
  rw [Int.mul_add, Int.mul_one] at h3
  omega
theorem val_append (b : Int) : ∀ (l m : List Int), val b (l ++ m) = val b l + b ^ l.length * val b m
 | [], m => by simp [val]
 | x :: l, m => by
  rw [List.cons_append, val_cons, val_cons, val_append b l m, List.length_cons, Int.pow_succ]
  rw [Int.mul_add, Int.mul_comm (b ^ l.length) b, Int.mul_assoc]; omega
theorem val_zeros (b : Int) : ∀ n : Nat, val b (List.replicate n 0) = 0
 | 0 => rfl
 | n + 1 => by rw [List.replicate_succ, val_cons, val_zeros b n]; simp
theorem val_snoc (b x : Int) (l : List Int) : val b (l ++ [x]) = val b l + b ^ l.length * x := by
 rw [val_append]; simp [val]
theorem val_take_drop (b : Int) (l : List Int) (n : Nat) (hn : n ≤ l.length) : val b l = val b (l.take n) + b ^ n * val b (l.drop n) := by
 conv => lhs; rw [← List.take_append_drop n l]
 rw [val_append, List.length_take, Nat.min_eq_left hn]
theorem val_set (b x : Int) : ∀ (l : List Int) (i : Nat), i < l.length → val b (l.set i x) = val b l + b ^ i * (x - l.getD i 0)
 | [], i, h => by simp at h
 | y :: l, 0, _ => by simp [val]; omega
 | y :: l, i + 1, h => by
  have := val_set b x l i (by simpa using h)
  rw [List.set_cons_succ, val_cons, val_cons, this, Int.pow_succ, List.getD_cons_succ]
  rw [Int.mul_add, Int.mul_comm (b ^ i) b, Int.mul_assoc]; omega
theorem drop_cons_getD (l : List Int) (i : Nat) (h : i < l.length) : l.drop i = l.getD i 0 :: l.drop (i + 1) := by
 rw [List.drop_eq_getElem_cons h, List.getD_eq_getElem?_getD, List.getElem?_eq_getElem h]; rfl
theorem take_snoc_getD (l : List Int) (i : Nat) (h : i < l.length) : l.take (i + 1) = l.take i ++ [l.getD i 0] := by
 rw [List.take_succ_eq_append_getElem h, List.getD_eq_getElem?_getD, List.getElem?_eq_getElem h]; rfl
theorem val_take_succ (b : Int) (l : List Int) (i : Nat) (h : i < l.length) : val b (l.take (i + 1)) = val b (l.take i) + b ^ i * l.getD i 0 := by
 rw [take_snoc_getD l i h, val_snoc, List.length_take, Nat.min_eq_left (by omega)]
theorem val_drop (b : Int) (l : List Int) (i : Nat) (h : i < l.length) : val b (l.drop i) = l.getD i 0 + b * val b (l.drop (i + 1)) := by
 rw [drop_cons_getD l i h, val_cons]
theorem norm_snoc (l : List Int) (x : Int) : Norm (l ++ [x]) ↔ x ≠ 0 := by
 induction l with
 | nil => simp [Norm]
 | cons y l ih =>
  cases l with
  | nil => simp [Norm]
  | cons z l => exact ih
theorem norm_iff (l : List Int) : Norm l ↔ (l = [] ∨ l.getD (l.length - 1) 0 ≠ 0) := by
 rcases List.eq_nil_or_concat l with rfl | ⟨m, x, rfl⟩
 ·simp [Norm]
 ·rw [List.concat_eq_append, norm_snoc]
  simp [List.getD_eq_getElem?_getD]
theorem norm_le {b : Int} (hb : 0 < b) {l : List Int} (h : Dig b l) (hn : Norm l) (hl : l ≠ []) : b ^ (l.length - 1) ≤ val b l := by
 rcases List.eq_nil_or_concat l with rfl | ⟨m, x, rfl⟩
 ·exact absurd rfl hl
 ·rw [List.concat_eq_append] at *
  rw [norm_snoc] at hn
  have hx := h x (by simp)
  have hm : Dig b m := fun y hy => h y (by simp [hy])
  have h0 := val_nonneg hb hm
  rw [val_snoc, List.length_append]
  simp only [List.length_cons, List.length_nil, Nat.zero_add, Nat.add_sub_cancel]
  have : b ^ m.length * 1 ≤ b ^ m.length * x := Int.mul_le_mul_of_nonneg_left (by omega) (Int.le_of_lt (powb_pos hb _))
  omega
theorem powb_mono {b : Int} (hb : 0 < b) {m n : Nat} (h : m ≤ n) : b ^ m ≤ b ^ n := by
 induction h with
 | refl => exact Int.le_refl _
 | step h ih =>
  rename_i k
  rw [Int.pow_succ]
  have : b ^ k * 1 ≤ b ^ k * b := Int.mul_le_mul_of_nonneg_left (by omega) (Int.le_of_lt (powb_pos hb _))
  omega
theorem val_inj_len {b : Int} (hb : 0 < b) : ∀ {l m : List Int}, Dig b l → Dig b m → l.length = m.length → val b l = val b m → l = m
 | [], [], _, _, _, _ => rfl
 | [], y :: m, _, _, h, _ => by simp at h
 | x :: l, [], _, _, h, _ => by simp at h
 | x :: l, y :: m, hl, hm, h, he => by
  have h1 := hl.head
  have h2 := hm.head
  rw [val_cons, val_cons] at he
  have e1 := divmod_unique (n := x + b * val b l) (d := b) (q := val b l) (r := x) (by rw [Int.mul_comm]; omega) h1.1 h1.2
  have e2 := divmod_unique (n := x + b * val b l) (d := b) (q := val b m) (r := y) (by rw [he, Int.mul_comm]; omega) h2.1 h2.2
  have hxy : x = y := e1.2.symm.trans e2.2
  have hv : val b l = val b m := e1.1.symm.trans e2.1
  rw [hxy, val_inj_len hb hl.tail hm.tail (by simpa using h) hv]
theorem norm_len_le {b : Int} (hb : 0 < b) {l m : List Int} (hl : Dig b l) (nl : Norm l) (hm : Dig b m) (he : val b l ≤ val b m) : l.length ≤ m.length := by
 by_cases h : l = []
 ·subst h; simp
 ·have h1 := norm_le hb hl nl h
  have h2 := val_lt hb hm
  have hlen : 0 < l.length := by cases l with | nil => exact absurd rfl h | cons => simp
  by_cases hc : l.length ≤ m.length
  ·exact hc
  ·have := powb_mono hb (show m.length ≤ l.length - 1 by omega)
   omega
theorem val_inj {b : Int} (hb : 0 < b) {l m : List Int} (hl : Dig b l) (nl : Norm l) (hm : Dig b m) (nm : Norm m) (he : val b l = val b m) : l = m :=
 val_inj_len hb hl hm (Nat.le_antisymm (norm_len_le hb hl nl hm (by omega)) (norm_len_le hb hm nm hl (by omega))) he
theorem val_drop_zero {b : Int} (hb : 0 < b) {l : List Int} (hl : Dig b l) (n : Nat) (h : val b l < b ^ n) : val b (l.drop n) = 0 := by
 by_cases hn : n ≤ l.length
 ·have h1 := val_take_drop b l n hn
  have h2 := val_nonneg hb (hl.take n)
  have h3 := val_nonneg hb (hl.drop n)
  by_cases hz : val b (l.drop n) = 0
  ·exact hz
  ·have : b ^ n * 1 ≤ b ^ n * val b (l.drop n) := Int.mul_le_mul_of_nonneg_left (by omega) (Int.le_of_lt (powb_pos hb n))
   omega
 ·rw [List.drop_eq_nil_of_le (by omega)]; rfl
def digs (b : Nat) (x : Nat) : List Int :=
 if h : 2 ≤ b ∧ 0 < x then ((x % b : Nat) : Int) :: digs b (x / b) else []
termination_by x
decreasing_by exact Nat.div_lt_self h.2 h.1
theorem digs_zero (b : Nat) : digs b 0 = [] := by rw [digs]; simp
theorem digs_pos {b x : Nat} (hb : 2 ≤ b) (hx : 0 < x) : digs b x = ((x % b : Nat) : Int) :: digs b (x / b) := by
 rw [digs, dif_pos ⟨hb, hx⟩]
theorem digs_ind {P : Nat → Prop} (b : Nat) (hb : 2 ≤ b) (h0 : P 0) (hs : ∀ x, 0 < x → P (x / b) → P x) (x : Nat) : P x := by
 induction x using Nat.strongRecOn with
 | _ x ih =>
  rcases Nat.eq_zero_or_pos x with rfl | hx
  ·exact h0
  ·exact hs x hx (ih _ (Nat.div_lt_self hx hb))
theorem digs_dig {b : Nat} (hb : 2 ≤ b) (x : Nat) : Dig (b : Int) (digs b x) := by
 refine digs_ind (P := fun x => Dig (b : Int) (digs b x)) b hb (by rw [digs_zero]; exact Dig.nil _) (fun x hx ih => ?_) x
 rw [digs_pos hb hx]
 refine Dig.cons ⟨Int.natCast_nonneg _, ?_⟩ ih
 have := Nat.mod_lt x (show 0 < b by omega)
 omega
theorem digs_val {b : Nat} (hb : 2 ≤ b) (x : Nat) : val (b : Int) (digs b x) = (x : Int) := by
 refine digs_ind (P := fun x => val (b : Int) (digs b x) = (x : Int)) b hb (by rw [digs_zero]; rfl) (fun x hx ih => ?_) x
 rw [digs_pos hb hx, val_cons, ih, ← Int.natCast_mul, ← Int.natCast_add]
 congr 1
 exact Nat.mod_add_div x b
theorem digs_norm {b : Nat} (hb : 2 ≤ b) (x : Nat) : Norm (digs b x) := by
 refine digs_ind (P := fun x => Norm (digs b x)) b hb (by rw [digs_zero]; trivial) (fun x hx ih => ?_) x
 rw [digs_pos hb hx]
 rcases Nat.eq_zero_or_pos (x / b) with h | h
 ·rw [h, digs_zero]
  show ((x % b : Nat) : Int) ≠ 0
  have := Nat.mod_add_div x b
  rw [h, Nat.mul_zero] at this
  omega
 ·rw [digs_pos hb h] at ih ⊢
  exact ih
theorem eq_digs {b : Nat} (hb : 2 ≤ b) {l : List Int} (hl : Dig (b : Int) l) (hn : Norm l) {x : Nat} (hx : val (b : Int) l = (x : Int)) : l = digs b x :=
 val_inj (b := (b : Int)) (by omega) hl hn (digs_dig hb x) (digs_norm hb x) (by rw [digs_val hb, hx])
theorem digs_inj {b : Nat} (hb : 2 ≤ b) {x y : Nat} (h : digs b x = digs b y) : x = y := by
 have := congrArg (val (b : Int)) h
 rw [digs_val hb, digs_val hb] at this
 omega
theorem digs_nil {b : Nat} (hb : 2 ≤ b) {x : Nat} : digs b x = [] ↔ x = 0 :=
 ⟨fun h => digs_inj hb (h.trans (digs_zero b).symm), fun h => by rw [h, digs_zero]⟩
theorem digs_len_le {b : Nat} (hb : 2 ≤ b) {x n : Nat} : (digs b x).length ≤ n ↔ x < b ^ n := by
 constructor
 ·intro h
  have h1 := val_lt (b := (b : Int)) (by omega) (digs_dig hb x)
  rw [digs_val hb] at h1
  have h2 := powb_mono (b := (b : Int)) (by omega) h
  have h3 : (x : Int) < (b : Int) ^ n := by omega
  exact_mod_cast h3
 ·intro h
  rcases Nat.lt_or_ge n (digs b x).length with h1 | h1
  ·have hne : digs b x ≠ [] := fun he => by rw [he] at h1; simp at h1
   have h2 := norm_le (b := (b : Int)) (by omega) (digs_dig hb x) (digs_norm hb x) hne
   have h3 := powb_mono (b := (b : Int)) (by omega) (show n ≤ (digs b x).length - 1 by omega)
   rw [digs_val hb] at h2
   have h4 : (b : Int) ^ n ≤ (x : Int) := by omega
   have h5 : b ^ n ≤ x := by exact_mod_cast h4
   omega
  ·exact h1
theorem digs_len_mono {b : Nat} (hb : 2 ≤ b) {x y : Nat} (h : x ≤ y) : (digs b x).length ≤ (digs b y).length :=
 (digs_len_le hb).2 (Nat.lt_of_le_of_lt h ((digs_len_le hb).1 (Nat.le_refl _)))
theorem digs_one {b : Nat} {x : Nat} (hb : 2 ≤ b) (hx : 0 < x) (h : x < b) : digs b x = [(x : Int)] := by
 rw [digs_pos hb hx, Nat.div_eq_of_lt h, Nat.mod_eq_of_lt h, digs_zero]

abbrev lim (x : Nat) : List Int := digs 4294967296 x
abbrev ten (x : Nat) : List Int := digs 10000 x
abbrev vb (l : List Int) : Int := val 4294967296 l
theorem lim_dig (x : Nat) : Dig 4294967296 (lim x) := digs_dig (b := 4294967296) (by omega) x
theorem lim_norm (x : Nat) : Norm (lim x) := digs_norm (by omega) x
theorem lim_val (x : Nat) : val 4294967296 (lim x) = (x : Int) := digs_val (b := 4294967296) (by omega) x
theorem eq_lim {l : List Int} (hl : Dig 4294967296 l) (hn : Norm l) {x : Nat} (hx : val 4294967296 l = (x : Int)) : l = lim x := eq_digs (b := 4294967296) (by omega) hl hn hx
theorem lim_nil {x : Nat} : lim x = [] ↔ x = 0 := digs_nil (by omega)
theorem lim_len {x n : Nat} : (lim x).length ≤ n ↔ x < 4294967296 ^ n := digs_len_le (by omega)
theorem ten_dig (x : Nat) : Dig 10000 (ten x) := digs_dig (b := 10000) (by omega) x
theorem ten_val (x : Nat) : val 10000 (ten x) = (x : Int) := digs_val (b := 10000) (by omega) x
theorem ten_nil {x : Nat} : ten x = [] ↔ x = 0 := digs_nil (by omega)
theorem ten_len {x n : Nat} : (ten x).length ≤ n ↔ x < 10000 ^ n := digs_len_le (by omega)
theorem toNat_val {b : Int} (hb : 0 < b) {l : List Int} (h : Dig b l) : ((val b l).toNat : Int) = val b l := Int.toNat_of_nonneg (val_nonneg hb h)

theorem getD_ge {l : List Int} {i : Nat} (h : l.length ≤ i) : l.getD i 0 = 0 := by
 rw [List.getD_eq_getElem?_getD, List.getElem?_eq_none h]; rfl
theorem getD_set_eq {l : List Int} {i : Nat} (h : i < l.length) (v : Int) : (l.set i v).getD i 0 = v := by
 rw [List.getD_eq_getElem?_getD, List.getElem?_set_self h]; rfl
theorem getD_set_ne {l : List Int} {i j : Nat} (h : i ≠ j) (v : Int) : (l.set i v).getD j 0 = l.getD j 0 := by
 rw [List.getD_eq_getElem?_getD, List.getElem?_set_ne h, ← List.getD_eq_getElem?_getD]
theorem getD_zeros (n i : Nat) : (List.replicate n (0 : Int)).getD i 0 = 0 := by
 rw [List.getD_eq_getElem?_getD]
 by_cases h : i < n
 ·rw [List.getElem?_replicate, if_pos h]; rfl
 ·rw [List.getElem?_replicate, if_neg h]; rfl
theorem val_take_succ' (b : Int) (l : List Int) (i : Nat) : val b (l.take (i + 1)) = val b (l.take i) + b ^ i * l.getD i 0 := by
 by_cases h : i < l.length
 ·exact val_take_succ b l i h
 ·rw [List.take_of_length_le (by omega), List.take_of_length_le (by omega), getD_ge (by omega)]; simp
theorem val_take_zeros (b : Int) (l : List Int) (n : Nat) (h : ∀ j, n ≤ j → l.getD j 0 = 0) : val b (l.take n) = val b l := by
 have key : ∀ d, val b (l.take (n + d)) = val b (l.take n) := by
  intro d
  induction d with
  | zero => rfl
  | succ d ih => rw [← Nat.add_assoc, val_take_succ', h (n + d) (by omega), ih]; simp
 have := key l.length
 rw [List.take_of_length_le (show l.length ≤ n + l.length by omega)] at this
 exact this.symm
theorem norm_take {l : List Int} {n : Nat} (hn : n < l.length) (h : l.getD n 0 ≠ 0) : Norm (l.take (n + 1)) := by
 rw [take_snoc_getD l n hn]
 exact (norm_snoc _ _).2 h
theorem take_digs {b : Nat} (hb : 2 ≤ b) {l : List Int} (hl : Dig (b : Int) l) {n : Nat} (hn : n < l.length) (hz : ∀ j, n + 1 ≤ j → l.getD j 0 = 0) (h : l.getD n 0 ≠ 0) {x : Nat} (hx : val (b : Int) l = (x : Int)) : l.take (n + 1) = digs b x :=
 eq_digs hb (hl.take _) (norm_take hn h) (by rw [val_take_zeros _ _ _ hz, hx])
theorem val_all_zeros (b : Int) (l : List Int) (hz : ∀ j, l.getD j 0 = 0) : val b l = 0 := by
 have := val_take_zeros b l 0 (fun j _ => hz j)
 rw [← this]; rfl

theorem pow32 (n : Nat) : ((4294967296 ^ n : Nat) : Int) = (4294967296 : Int) ^ n := by rw [Int.natCast_pow]; rfl
theorem lim_take (x n : Nat) : val 4294967296 ((lim x).take n) = ((x % 4294967296 ^ n : Nat) : Int) ∧ val 4294967296 ((lim x).drop n) = ((x / 4294967296 ^ n : Nat) : Int) := by
 by_cases hn : n ≤ (lim x).length
 ·have h := val_take_drop 4294967296 (lim x) n hn
  rw [lim_val] at h
  have h0 := val_nonneg (b := 4294967296) (by omega) ((lim_dig x).take n)
  have h1 := val_lt (b := 4294967296) (by omega) ((lim_dig x).take n)
  rw [List.length_take, Nat.min_eq_left hn] at h1
  have hu := divmod_unique (n := (x : Int)) (d := 4294967296 ^ n) (q := val 4294967296 ((lim x).drop n)) (r := val 4294967296 ((lim x).take n)) (by rw [Int.mul_comm, h]; omega) h0 h1
  constructor
  ·rw [← hu.2, Int.natCast_emod, pow32]
  ·rw [← hu.1, Int.natCast_ediv, pow32]
 ·have hlt : x < 4294967296 ^ n := lim_len.1 (by omega)
  rw [List.take_of_length_le (by omega), List.drop_eq_nil_of_le (by omega), lim_val, Nat.mod_eq_of_lt hlt, Nat.div_eq_of_lt hlt]
  exact ⟨rfl, rfl⟩
end Go.Proofs.YtjcdkemnflmfiaaGreatA
namespace Go.Proofs.YtjcdkemnflmfiaaGreatA
open Go
theorem limb_Add_is {a b c : Int} (ha : 0 ≤ a ∧ a < 18446744073709551616) (hb : 0 ≤ b ∧ b < 18446744073709551616) (hc : 0 ≤ c ∧ c < 18446744073709551616) :
  limb_Add_R a b c ((a % 4294967296 + b % 4294967296 + c % 4294967296) % 4294967296) ((a % 4294967296 + b % 4294967296 + c % 4294967296) / 4294967296) := by
 refine limb_Add_go ⟨_, rfl, ?_⟩
 rw [and32 ha.1 ha.2, and32 hb.1 hb.2, and32 hc.1 hc.2, w64i (n := a % 4294967296 + b % 4294967296) (by omega) (by omega), w64i (n := a % 4294967296 + b % 4294967296 + c % 4294967296) (by omega) (by omega), and32 (by omega) (by omega)]
 exact ⟨rfl, rfl⟩
theorem limb_Sub_lt {a b c : Int} (ha : 0 ≤ a ∧ a < 18446744073709551616) (hb : 0 ≤ b ∧ b < 18446744073709551616) (hc : 0 ≤ c ∧ c < 18446744073709551616) (h : a % 4294967296 < b % 4294967296 + c % 4294967296) :
  limb_Sub_R a b c (a % 4294967296 + (b % 4294967296 + c % 4294967296 - a % 4294967296 + 4294967295) / 4294967296 * 4294967296 - (b % 4294967296 + c % 4294967296)) ((b % 4294967296 + c % 4294967296 - a % 4294967296 + 4294967295) / 4294967296) := by
 refine limb_Sub_go ?_
 rw [and32 ha.1 ha.2, and32 hb.1 hb.2, and32 hc.1 hc.2, w64i (n := b % 4294967296 + c % 4294967296) (by omega) (by omega)]
 refine .inl ⟨h, _, rfl, _, rfl, _, rfl, ?_⟩
 rw [w64i (n := b % 4294967296 + c % 4294967296 - a % 4294967296) (by omega) (by omega), w64i (n := b % 4294967296 + c % 4294967296 - a % 4294967296 + 4294967295) (by omega) (by omega)]
 show _ = wu (wu (a % 4294967296 + wu ((b % 4294967296 + c % 4294967296 - a % 4294967296 + 4294967295) / 4294967296 * 4294967296)) - (b % 4294967296 + c % 4294967296)) ∧ _ = (b % 4294967296 + c % 4294967296 - a % 4294967296 + 4294967295) / 4294967296
 rw [w64i (n := (b % 4294967296 + c % 4294967296 - a % 4294967296 + 4294967295) / 4294967296 * 4294967296) (by omega) (by omega), w64i (n := a % 4294967296 + _) (by omega) (by omega), w64i (by omega) (by omega)]
 exact ⟨rfl, rfl⟩
theorem limb_Sub_ge {a b c : Int} (ha : 0 ≤ a ∧ a < 18446744073709551616) (hb : 0 ≤ b ∧ b < 18446744073709551616) (hc : 0 ≤ c ∧ c < 18446744073709551616) (h : ¬ a % 4294967296 < b % 4294967296 + c % 4294967296) :
  limb_Sub_R a b c (a % 4294967296 - (b % 4294967296 + c % 4294967296)) 0 := by
 refine limb_Sub_go ?_
 rw [and32 ha.1 ha.2, and32 hb.1 hb.2, and32 hc.1 hc.2, w64i (n := b % 4294967296 + c % 4294967296) (by omega) (by omega)]
 refine .inr ⟨h, _, rfl, ?_, rfl⟩
 rw [Int.add_zero, w64i (n := a % 4294967296) (by omega) (by omega), w64i (by omega) (by omega)]
theorem limb_Mul_is {a b c d : Int} (ha : 0 ≤ a ∧ a < 18446744073709551616) (hb : 0 ≤ b ∧ b < 18446744073709551616) (hc : 0 ≤ c ∧ c < 18446744073709551616) (hd : 0 ≤ d ∧ d < 18446744073709551616) :
  limb_Mul_R a b c d ((a % 4294967296 * (b % 4294967296) + c % 4294967296 + d % 4294967296) % 4294967296) ((a % 4294967296 * (b % 4294967296) + c % 4294967296 + d % 4294967296) / 4294967296) := by
 refine limb_Mul_go ⟨_, rfl, ?_⟩
 rw [and32 ha.1 ha.2, and32 hb.1 hb.2, and32 hc.1 hc.2, and32 hd.1 hd.2]
 have hp := prod32 (x := a % 4294967296) (y := b % 4294967296) (by omega) (by omega) (by omega) (by omega)
 rw [w64i (n := a % 4294967296 * (b % 4294967296)) (by omega) (by omega), w64i (n := a % 4294967296 * (b % 4294967296) + c % 4294967296) (by omega) (by omega), w64i (n := a % 4294967296 * (b % 4294967296) + c % 4294967296 + d % 4294967296) (by omega) (by omega), and32 (by omega) (by omega)]
 exact ⟨rfl, rfl⟩
theorem nat_trim_loop {l : List Int} (hl : Dig 4294967296 l) (hs : l.length ≤ 1099511627776) {x : Nat} (hx : val 4294967296 l = (x : Int)) : ∀ n : Nat, n ≤ l.length → (∀ j, n ≤ j → l.getD j 0 = 0) → nat_trim_l0 l (n : Int) (lim x) := by
 intro n
 induction n with
 | zero =>
  intro hn hz
  have hx0 : x = 0 := by
   have := val_all_zeros 4294967296 l (fun j => hz j (by omega))
   omega
  refine nat_trim_l0_go (.inr ⟨by omega, by omega, by omega, ?_⟩)
  rw [hx0, show lim 0 = [] from lim_nil.2 rfl]; rfl
 | succ n ih =>
  intro hn hz
  have hw : wi (((n + 1 : Nat) : Int) - 1) = (n : Int) := by rw [s64i (by omega) (by omega)]; omega
  refine nat_trim_l0_go (.inl ⟨by omega, ?_⟩)
  rw [hw]
  refine ⟨by omega, by omega, ?_⟩
  rw [Int.toNat_natCast]
  by_cases h : l.getD n 0 = 0
  ·refine .inl ⟨h, ih (by omega) (fun j hj => ?_)⟩
   rcases Nat.lt_or_ge n j with h1 | h1
   ·exact hz j h1
   ·rw [show j = n by omega]; exact h
  ·refine .inr ⟨h, by omega, by omega, ?_⟩
   rw [Int.toNat_natCast, take_digs (b := 4294967296) (by omega) hl (by omega) hz h hx]
theorem nat_trim_is {l : List Int} (hl : Dig 4294967296 l) (hs : l.length ≤ 1099511627776) {x : Nat} (hx : val 4294967296 l = (x : Int)) : nat_trim_R l (lim x) :=
 nat_trim_go (nat_trim_loop hl hs hx l.length (Nat.le_refl _) (fun j hj => getD_ge hj))
theorem nat_Make_loop {l : List Int} (hl : Dig 4294967296 l) (hs : l.length ≤ 1099511627776) {x : Nat} (hx : val 4294967296 l = (x : Int)) (d : Nat) : ∀ i : Nat, i + d = l.length → nat_Make_l1 l (l.length : Int) (i : Int) (l.take i) (lim x) 0 := by
 induction d with
 | zero =>
  intro i hi
  refine nat_Make_l1_go (.inr ⟨by omega, lim x, ?_, rfl, rfl⟩)
  rw [List.take_of_length_le (by omega)]
  exact nat_trim_is hl hs hx
 | succ d ih =>
  intro i hi
  have hg := Dig.getD (by omega) hl i
  refine nat_Make_l1_go (.inl ⟨by omega, by omega, by omega, .inr ⟨by rw [Int.toNat_natCast]; omega, by rw [List.length_take]; omega, _, rfl, ?_⟩⟩)
  rw [Int.toNat_natCast, s64i (by omega) (by omega), ← take_snoc_getD l i (by omega)]
  exact ih (i + 1) (by omega)
theorem nat_Make_is {l : List Int} (hl : Dig 4294967296 l) (hs : l.length ≤ 1099511627776) {x : Nat} (hx : val 4294967296 l = (x : Int)) : nat_Make_R l (lim x) 0 := by
 refine nat_Make_go ⟨by omega, by omega, _, rfl, ?_⟩
 rcases Nat.eq_zero_or_pos l.length with h | h
 ·refine nat_Make_l0_go (.inr ⟨by omega, lim x, ?_, rfl, rfl⟩)
  have : l = [] := List.eq_nil_of_length_eq_zero h
  subst this
  exact nat_trim_is hl hs hx
 ·have hg := Dig.getD (by omega) hl 0
  refine nat_Make_l0_go (.inl ⟨by omega, by omega, by omega, .inr ⟨by rw [show (0 : Int).toNat = 0 from rfl]; omega, by simp, _, rfl, ?_⟩⟩)
  have := nat_Make_loop hl hs hx (l.length - 1) 1 (by omega)
  rw [take_snoc_getD l 0 h] at this
  exact this
theorem nat_Make_lim {x : Nat} (hs : (lim x).length ≤ 1099511627776) : nat_Make_R (lim x) (lim x) 0 := nat_Make_is (lim_dig x) hs (lim_val x)
theorem nat_at_is (l : List Int) (i : Nat) : nat_at_R l (i : Int) (l.getD i 0) := by
 by_cases h : (l.length : Int) ≤ (i : Int)
 ·exact nat_at_go (.inl ⟨h, getD_ge (by omega)⟩)
 ·exact nat_at_go (.inr ⟨h, by omega, by omega, rfl⟩)
theorem nat_Add_loop {a b : List Int} (ha : Dig 4294967296 a) (hb : Dig 4294967296 b) {n x : Nat} (hn : n ≤ 1000000000000) (hna : a.length ≤ n) (hnb : b.length ≤ n) (hx : val 4294967296 a + val 4294967296 b = (x : Int)) (d : Nat) : ∀ (i : Nat) (s : List Int) (c : Int),
  i + d = n → s.length = n + 1 → Dig 4294967296 s → 0 ≤ c → c ≤ 1 → (∀ j, i ≤ j → s.getD j 0 = 0) → val 4294967296 s + c * 4294967296 ^ i = val 4294967296 (a.take i) + val 4294967296 (b.take i) →
  nat_Add_l0 a b (n : Int) c (n : Int) (i : Int) s (lim x) := by
 induction d with
 | zero =>
  intro i s c hi hl hs h0 h1 hz hv
  obtain rfl : i = n := by omega
  refine nat_Add_l0_go (.inr ⟨by omega, by omega, by omega, _, rfl, lim x, ?_, rfl⟩)
  rw [Int.toNat_natCast]
  refine nat_trim_is (hs.set (by omega) _) (by rw [List.length_set]; omega) ?_
  rw [val_set _ _ _ _ (by omega), hz i (Nat.le_refl _), Int.sub_zero, ← hx]
  rw [List.take_of_length_le hna, List.take_of_length_le hnb, Int.mul_comm c] at hv
  exact hv
 | succ d ih =>
  intro i s c hi hl hs h0 h1 hz hv
  have ga := Dig.getD (by omega) ha i
  have gb := Dig.getD (by omega) hb i
  refine nat_Add_l0_go (.inl ⟨by omega, _, nat_at_is a i, _, nat_at_is b i, _, _, limb_Add_is (by omega) (by omega) (by omega), by omega, by omega, _, rfl, ?_⟩)
  rw [s64i (by omega) (by omega), Int.toNat_natCast]
  refine ih (i + 1) _ _ (by omega) (by rw [List.length_set]; exact hl) (hs.set (by omega) _) (by omega) (by omega) (fun j hj => ?_) ?_
  ·rw [getD_set_ne (by omega)]; exact hz j (by omega)
  ·rw [val_set _ _ _ _ (by omega), hz i (Nat.le_refl _), val_take_succ', val_take_succ', Int.sub_zero, Int.pow_succ]
   have e : (a.getD i 0 % 4294967296 + b.getD i 0 % 4294967296 + c % 4294967296) % 4294967296 + 4294967296 * ((a.getD i 0 % 4294967296 + b.getD i 0 % 4294967296 + c % 4294967296) / 4294967296) = a.getD i 0 + b.getD i 0 + c := by omega
   generalize (a.getD i 0 % 4294967296 + b.getD i 0 % 4294967296 + c % 4294967296) % 4294967296 = p at e ⊢
   generalize (a.getD i 0 % 4294967296 + b.getD i 0 % 4294967296 + c % 4294967296) / 4294967296 = q at e ⊢
   generalize (4294967296 : Int) ^ i = P at hv ⊢
   grind
theorem mx_nat (a b : Nat) : mx (a : Int) (b : Int) = ((max a b : Nat) : Int) := by unfold mx; split <;> omega
theorem mn_nat (a b : Nat) : mn (a : Int) (b : Int) = ((min a b : Nat) : Int) := by unfold mn; split <;> omega
theorem nat_Add_is {x y : Nat} (hx : (lim x).length ≤ 1000000000000) (hy : (lim y).length ≤ 1000000000000) : nat_Add_R (lim x) (lim y) (lim (x + y)) := by
 refine nat_Add_go ?_
 rw [mx_nat, s64i (n := ((max (lim x).length (lim y).length : Nat) : Int) + 1) (by omega) (by omega)]
 refine ⟨by omega, by omega, _, rfl, ?_⟩
 refine nat_Add_loop (lim_dig x) (lim_dig y) (n := max (lim x).length (lim y).length) (by omega) (by omega) (by omega) (by rw [lim_val, lim_val]; omega) (max (lim x).length (lim y).length) 0 _ 0 (by omega) ?_ (Dig.zeros (by omega) _) (by omega) (by omega) (fun j _ => getD_zeros _ j) ?_
 ·rw [List.length_replicate]; omega
 ·rw [val_zeros]; rfl
end Go.Proofs.YtjcdkemnflmfiaaGreatA
namespace Go.Proofs.YtjcdkemnflmfiaaGreatA
open Go Go.Proofs
abbrev Hop := ByteArray × Int
theorem mn20 (n : Nat) : (mn (n : Int) 20).toNat = min n 20 := by unfold mn; split <;> omega
def short20 (s : ByteArray) : ByteArray := s.extract 0 (min s.size 20)
theorem short_go (s : ByteArray) : ref22_short_R s (short20 s) := by
 refine ref22_short_go ⟨by unfold mn; split <;> omega, by unfold mn; split <;> omega, ?_⟩
 rw [mn20]; rfl
def GoodG (g : List Hop) : Prop := g.length ≤ 5 ∧ ∀ h ∈ g, -1000000 ≤ h.2 ∧ h.2 ≤ 2147483648
def GoodGs (gs : List (List Hop)) : Prop := gs.length ≤ 4 ∧ ∀ g ∈ gs, GoodG g
theorem GoodG.nil : GoodG [] := ⟨by simp, fun h hh => by cases hh⟩
theorem GoodG.snoc {g : List Hop} (hg : GoodG g) (hl : g.length < 5) {s : ByteArray} {w : Int} (h1 : -1000000 ≤ w) (h2 : w ≤ 2147483648) : GoodG (g ++ [(s, w)]) :=
 ⟨by rw [List.length_append]; simp; omega, fun h hh => by
  rcases List.mem_append.1 hh with hh | hh
  ·exact hg.2 h hh
  ·rw [List.mem_singleton.1 hh]; exact ⟨h1, h2⟩⟩
theorem GoodGs.nil : GoodGs [] := ⟨by simp, fun g hg => by cases hg⟩
theorem GoodGs.snoc {gs : List (List Hop)} (hg : GoodGs gs) (hl : gs.length < 4) {g : List Hop} (h : GoodG g) : GoodGs (gs ++ [g]) :=
 ⟨by rw [List.length_append]; simp; omega, fun x hx => by
  rcases List.mem_append.1 hx with hx | hx
  ·exact hg.2 x hx
  ·rw [List.mem_singleton.1 hx]; exact h⟩
theorem small25 {n : Nat} (h : n ≤ 1000) : (n + 1 + 192) * (24 + 1) ≤ 70368744177664 := by omega
section
variable {a s : ByteArray} {b c : Int} {d : Bool} {gs : List (List Hop)}
theorem cr1 {acc : List (List Hop)} (hacc : acc.length < 4) {i : Nat} (hi : i < gs.length) (next : ∀ g, GoodG g → ∃ z, ref22_CleanRule_l0 (wi ((i : Int) + 1)) a b c d gs ⟨#[]⟩ 0 0 false s b c d (acc ++ [g]) s b c d z ∧ GoodGs z) :
  ∀ (n k : Nat) (g : List Hop), k + n = 5 → g.length ≤ k → GoodG g → ∃ z, ref22_CleanRule_l1 (i : Int) (k : Int) a b c d gs ⟨#[]⟩ 0 0 false s b c d g acc s b c d z ∧ GoodGs z
 | 0, k, g, hk, hgk, hg => by
  have hb : (acc.length + 1 + 192) * (24 + 1) ≤ 70368744177664 := small25 (by omega)
  obtain ⟨z, h1, h2⟩ := next g hg
  by_cases hkl : k < (gs.getD i []).length
  ·exact ⟨z, ref22_CleanRule_l1_go ⟨by omega, by omega, .inl ⟨by rw [Int.toNat_natCast]; omega, .inr ⟨by omega, hb, _, rfl, h1⟩⟩⟩, h2⟩
  ·exact ⟨z, ref22_CleanRule_l1_go ⟨by omega, by omega, .inr ⟨by rw [Int.toNat_natCast]; omega, hb, _, rfl, h1⟩⟩, h2⟩
 | n + 1, k, g, hk, hgk, hg => by
  have hb : (acc.length + 1 + 192) * (24 + 1) ≤ 70368744177664 := small25 (by omega)
  by_cases hkl : k < (gs.getD i []).length
  ·have hgb : (g.length + 1 + 192) * (24 + 1) ≤ 70368744177664 := small25 (by omega)
   have e1 : 0 ≤ (i : Int) := by omega
   have e2 : (i : Int) < (gs.length : Int) := by omega
   have e3 : (k : Int) < ((gs.getD ((i : Nat) : Int).toNat []).length : Int) := by rw [Int.toNat_natCast]; omega
   have e4 : (k : Int) < 5 := by omega
   have e5 : 0 ≤ (k : Int) := by omega
   have e6 : g.length < 5 := by omega
   have e7 : k + 1 + n = 5 := by omega
   have e8 : ∀ x : Hop, (g ++ [x]).length ≤ k + 1 := fun x => by rw [List.length_append, List.length_singleton]; omega
   have hw : wi ((k : Int) + 1) = ((k + 1 : Nat) : Int) := w_succ (by omega)
   have get : (gs.getD ((i : Nat) : Int).toNat []).getD ((k : Nat) : Int).toNat (ByteArray.empty, 0) = (((gs.getD i []).getD k (ByteArray.empty, 0)).1, ((gs.getD i []).getD k (ByteArray.empty, 0)).2) := rfl
   generalize (gs.getD i []).getD k (ByteArray.empty, 0) = x at get
   have step : ∀ w, -1000000 ≤ w → w ≤ 2147483648 → ∃ z, ref22_CleanRule_l1 (i : Int) (wi ((k : Int) + 1)) a b c d gs ⟨#[]⟩ 0 0 false s b c d (g ++ [(short20 x.1, w)]) acc s b c d z ∧ GoodGs z := fun w h1 h2 => by
    rw [hw]
    exact cr1 hacc hi next n (k + 1) _ e7 (e8 _) (hg.snoc e6 h1 h2)
   by_cases c1 : x.2 < -1000000
   ·obtain ⟨z, h1, h2⟩ := step 2 (by decide) (by decide)
    exact ⟨z, ref22_CleanRule_l1_go ⟨e1, e2, .inl ⟨e3, .inl ⟨e4, e5, _, _, get, .inl ⟨c1, _, _, get, _, short_go _, hgb, _, rfl, h1⟩⟩⟩⟩, h2⟩
   ·by_cases c2 : 2147483648 < x.2
    ·obtain ⟨z, h1, h2⟩ := step 2 (by decide) (by decide)
     exact ⟨z, ref22_CleanRule_l1_go ⟨e1, e2, .inl ⟨e3, .inl ⟨e4, e5, _, _, get, .inr ⟨c1, .inl ⟨c2, _, _, get, _, short_go _, hgb, _, rfl, h1⟩⟩⟩⟩⟩, h2⟩
    ·obtain ⟨z, h1, h2⟩ := step x.2 (Int.not_lt.1 c1) (Int.not_lt.1 c2)
     exact ⟨z, ref22_CleanRule_l1_go ⟨e1, e2, .inl ⟨e3, .inl ⟨e4, e5, _, _, get, .inr ⟨c1, .inr ⟨c2, _, _, get, _, short_go _, hgb, _, rfl, h1⟩⟩⟩⟩⟩, h2⟩
  ·obtain ⟨z, h1, h2⟩ := next g hg
   exact ⟨z, ref22_CleanRule_l1_go ⟨by omega, by omega, .inr ⟨by rw [Int.toNat_natCast]; omega, hb, _, rfl, h1⟩⟩, h2⟩
theorem cr0 : ∀ (n i : Nat) (acc : List (List Hop)), i + n = 4 → acc.length ≤ i → GoodGs acc → ∃ z, ref22_CleanRule_l0 (i : Int) a b c d gs ⟨#[]⟩ 0 0 false s b c d acc s b c d z ∧ GoodGs z
 | 0, i, acc, hi, hl, hg => by
  by_cases h : i < gs.length
  ·exact ⟨acc, ref22_CleanRule_l0_go (.inl ⟨by omega, .inr ⟨by omega, rfl, rfl, rfl, rfl, rfl⟩⟩), hg⟩
  ·exact ⟨acc, ref22_CleanRule_l0_go (.inr ⟨by omega, rfl, rfl, rfl, rfl, rfl⟩), hg⟩
 | n + 1, i, acc, hi, hl, hg => by
  by_cases h : i < gs.length
  ·obtain ⟨z, h1, h2⟩ := cr1 (a := a) (s := s) (b := b) (c := c) (d := d) (acc := acc) (by omega) h (fun g hgg => by
    rw [w_succ (by omega)]
    exact cr0 n (i + 1) _ (by omega) (by rw [List.length_append, List.length_singleton]; omega) (hg.snoc (by omega) hgg)) 5 0 [] (by omega) (by simp) .nil
   exact ⟨z, ref22_CleanRule_l0_go (.inl ⟨by omega, .inl ⟨by omega, h1⟩⟩), h2⟩
  ·exact ⟨acc, ref22_CleanRule_l0_go (.inr ⟨by omega, rfl, rfl, rfl, rfl, rfl⟩), hg⟩
end
theorem clean_go (a : ByteArray) (b c : Int) (d : Bool) (gs : List (List Hop)) : ∃ z, ref22_CleanRule_R a b c d gs (short20 a) b c d z ∧ GoodGs z := by
 obtain ⟨z, h1, h2⟩ := cr0 (a := a) (s := short20 a) (b := b) (c := c) (d := d) (gs := gs) 4 0 [] (by omega) (by simp) .nil
 exact ⟨z, ref22_CleanRule_go ⟨_, short_go a, h1⟩, h2⟩
end Go.Proofs.YtjcdkemnflmfiaaGreatA
namespace Go.Proofs.YtjcdkemnflmfiaaGreatA
open Go
theorem val_lt_of_top {b : Int} (hb : 0 < b) {l m : List Int} (hl : Dig b l) (hm : Dig b m) (h : l.length = m.length) (i : Nat) (hi : i < l.length) (he : val b (l.drop (i + 1)) = val b (m.drop (i + 1))) (hlt : l.getD i 0 < m.getD i 0) : val b l < val b m := by
 rw [val_take_drop b l i (by omega), val_take_drop b m i (by omega), val_drop b l i hi, val_drop b m i (by omega), he]
 have h1 := val_lt hb (hl.take i)
 rw [List.length_take, Nat.min_eq_left (by omega)] at h1
 have h2 := val_nonneg hb (hm.take i)
 have h3 : b ^ i * (l.getD i 0 + 1) ≤ b ^ i * m.getD i 0 := Int.mul_le_mul_of_nonneg_left (by omega) (Int.le_of_lt (powb_pos hb i))
 rw [Int.mul_add, Int.mul_one] at h3
 rw [Int.mul_add, Int.mul_add]
 omega
theorem nat_Cmp_loop {a b : List Int} (ha : Dig 4294967296 a) (hb : Dig 4294967296 b) (hl : a.length = b.length) (hs : a.length ≤ 1000000000000) : ∀ i : Nat, i ≤ a.length → val 4294967296 (a.drop i) = val 4294967296 (b.drop i) →
  nat_Cmp_l0 a b ((i : Int) - 1) (if val 4294967296 a < val 4294967296 b then -1 else if val 4294967296 b < val 4294967296 a then 1 else 0) := by
 intro i
 induction i with
 | zero =>
  intro hi he
  have he : val 4294967296 a = val 4294967296 b := he
  rw [if_neg (by omega), if_neg (by omega)]
  exact nat_Cmp_l0_go (.inr ⟨by omega, rfl⟩)
 | succ i ih =>
  intro hi he
  have hw : ((i + 1 : Nat) : Int) - 1 = (i : Int) := by omega
  rw [hw]
  refine nat_Cmp_l0_go (.inl ⟨by omega, by omega, by omega, ?_⟩)
  rw [Int.toNat_natCast]
  by_cases h1 : a.getD i 0 < b.getD i 0
  ·rw [if_pos (val_lt_of_top (by omega) ha hb hl i (by omega) he h1)]
   exact .inl ⟨h1, rfl⟩
  ·by_cases h2 : b.getD i 0 < a.getD i 0
   ·have := val_lt_of_top (by omega) hb ha hl.symm i (by omega) he.symm h2
    rw [if_neg (by omega), if_pos this]
    exact .inr ⟨h1, .inl ⟨h2, rfl⟩⟩
   ·refine .inr ⟨h1, .inr ⟨h2, ?_⟩⟩
    rw [s64i (by omega) (by omega)]
    refine ih (by omega) ?_
    rw [val_drop _ a i (by omega), val_drop _ b i (by omega), he]
    omega
theorem nat_Cmp_is {x y : Nat} (hx : (lim x).length ≤ 1000000000000) (hy : (lim y).length ≤ 1000000000000) : nat_Cmp_R (lim x) (lim y) (if x < y then -1 else if y < x then 1 else 0) := by
 have mono : ∀ {x y : Nat}, (lim x).length < (lim y).length → x < y := by
  intro x y h
  rcases Nat.lt_or_ge x y with h1 | h1
  ·exact h1
  ·have := digs_len_mono (b := 4294967296) (by omega) h1
   have h2 : (lim y).length ≤ (lim x).length := this
   omega
 refine nat_Cmp_go ?_
 by_cases h1 : ((lim x).length : Int) < ((lim y).length : Int)
 ·refine .inl ⟨h1, ?_⟩
  rw [if_pos (mono (by omega))]
 ·by_cases h2 : ((lim y).length : Int) < ((lim x).length : Int)
  ·have := mono (x := y) (y := x) (by omega)
   rw [if_neg (by omega), if_pos this]
   exact .inr ⟨h1, .inl ⟨h2, rfl⟩⟩
  ·refine .inr ⟨h1, .inr ⟨h2, ?_⟩⟩
   rw [s64i (by omega) (by omega)]
   have := nat_Cmp_loop (lim_dig x) (lim_dig y) (by omega) hx (lim x).length (Nat.le_refl _) (by rw [List.drop_eq_nil_of_le (Nat.le_refl _), List.drop_eq_nil_of_le (by omega)])
   rw [lim_val, lim_val] at this
   simp only [Int.ofNat_lt] at this
   exact this
theorem nat_Sub_loop {a b : List Int} (ha : Dig 4294967296 a) (hb : Dig 4294967296 b) {n x : Nat} (hn : n ≤ 1000000000000) (hna : a.length = n) (hnb : b.length ≤ n) (hx : val 4294967296 a - val 4294967296 b = (x : Int)) (d : Nat) : ∀ (i : Nat) (s : List Int) (c : Int),
  i + d = n → s.length = n → Dig 4294967296 s → 0 ≤ c → c ≤ 1 → (∀ j, i ≤ j → s.getD j 0 = 0) → val 4294967296 s + val 4294967296 (b.take i) = val 4294967296 (a.take i) + c * 4294967296 ^ i →
  nat_Sub_l0 a b c (n : Int) (i : Int) s (lim x) 0 := by
 induction d with
 | zero =>
  intro i s c hi hl hs h0 h1 hz hv
  obtain rfl : i = n := by omega
  rw [List.take_of_length_le (l := b) hnb, List.take_of_length_le (l := a) (by omega)] at hv
  have hlt := val_lt (by omega) hs
  rw [hl] at hlt
  have hp := powb_pos (b := 4294967296) (by omega) i
  have hc : c = 0 := by
   rcases (show c = 0 ∨ c = 1 by omega) with h | h
   ·exact h
   ·subst h; omega
  refine nat_Sub_l0_go (.inr ⟨by omega, lim x, nat_trim_is hs (by omega) ?_, rfl, rfl⟩)
  subst hc
  omega
 | succ d ih =>
  intro i s c hi hl hs h0 h1 hz hv
  have ga := Dig.getD (by omega) ha i
  have gb := Dig.getD (by omega) hb i
  by_cases h : a.getD i 0 < b.getD i 0 + c
  ·have hsub : limb_Sub_R (a.getD i 0) (b.getD i 0) c (a.getD i 0 + 4294967296 - b.getD i 0 - c) 1 := by
    have := limb_Sub_lt (a := a.getD i 0) (b := b.getD i 0) (c := c) (by omega) (by omega) (by omega) (by omega)
    rw [show (b.getD i 0 % 4294967296 + c % 4294967296 - a.getD i 0 % 4294967296 + 4294967295) / 4294967296 = 1 by omega] at this
    rw [show a.getD i 0 + 4294967296 - b.getD i 0 - c = a.getD i 0 % 4294967296 + 1 * 4294967296 - (b.getD i 0 % 4294967296 + c % 4294967296) by omega]
    exact this
   refine nat_Sub_l0_go (.inl ⟨by omega, by omega, by omega, _, nat_at_is b i, _, _, hsub, by omega, _, rfl, ?_⟩)
   rw [s64i (by omega) (by omega), Int.toNat_natCast]
   refine ih (i + 1) _ _ (by omega) (by rw [List.length_set]; exact hl) (hs.set (by omega) _) (by omega) (by omega) (fun j hj => ?_) ?_
   ·rw [getD_set_ne (by omega)]; exact hz j (by omega)
   ·rw [val_set _ _ _ _ (by omega), hz i (Nat.le_refl _), val_take_succ', val_take_succ', Int.sub_zero, Int.pow_succ]
    generalize (4294967296 : Int) ^ i = P at hv ⊢
    generalize a.getD i 0 = p at *
    generalize b.getD i 0 = q at *
    grind
  ·have hsub : limb_Sub_R (a.getD i 0) (b.getD i 0) c (a.getD i 0 - b.getD i 0 - c) 0 := by
    have := limb_Sub_ge (a := a.getD i 0) (b := b.getD i 0) (c := c) (by omega) (by omega) (by omega) (by omega)
    rw [show a.getD i 0 - b.getD i 0 - c = a.getD i 0 % 4294967296 - (b.getD i 0 % 4294967296 + c % 4294967296) by omega]
    exact this
   refine nat_Sub_l0_go (.inl ⟨by omega, by omega, by omega, _, nat_at_is b i, _, _, hsub, by omega, _, rfl, ?_⟩)
   rw [s64i (by omega) (by omega), Int.toNat_natCast]
   refine ih (i + 1) _ _ (by omega) (by rw [List.length_set]; exact hl) (hs.set (by omega) _) (by omega) (by omega) (fun j hj => ?_) ?_
   ·rw [getD_set_ne (by omega)]; exact hz j (by omega)
   ·rw [val_set _ _ _ _ (by omega), hz i (Nat.le_refl _), val_take_succ', val_take_succ', Int.sub_zero, Int.pow_succ]
    generalize (4294967296 : Int) ^ i = P at hv ⊢
    generalize a.getD i 0 = p at *
    generalize b.getD i 0 = q at *
    grind
theorem nat_Sub_lt {x y : Nat} (hx : (lim x).length ≤ 1000000000000) (hy : (lim y).length ≤ 1000000000000) (h : x < y) : nat_Sub_R (lim x) (lim y) [] 6 := by
 have := nat_Cmp_is hx hy
 rw [if_pos h] at this
 exact nat_Sub_go ⟨_, this, .inl ⟨by omega, rfl, rfl⟩⟩
theorem nat_Sub_ge {x y : Nat} (hx : (lim x).length ≤ 1000000000000) (hy : (lim y).length ≤ 1000000000000) (h : y ≤ x) : nat_Sub_R (lim x) (lim y) (lim (x - y)) 0 := by
 refine nat_Sub_go ⟨_, nat_Cmp_is hx hy, .inr ⟨by rw [if_neg (by omega)]; split <;> omega, by omega, by omega, _, rfl, ?_⟩⟩
 rw [Int.toNat_natCast, List.length_replicate]
 refine nat_Sub_loop (lim_dig x) (lim_dig y) (n := (lim x).length) hx rfl (digs_len_mono (by omega) (by omega)) (by rw [lim_val, lim_val]; omega) (lim x).length 0 _ 0 (by omega) (by rw [List.length_replicate]) (Dig.zeros (by omega) _) (by omega) (by omega) (fun j _ => getD_zeros _ j) ?_
 rw [val_zeros]; rfl
theorem nat_May_lim {x : Nat} (hs : (lim x).length ≤ 1000000000000) : nat_May_R (lim x) true := by
 have loop : ∀ d i : Nat, i + d = (lim x).length → nat_May_l0 (lim x) (lim x) ((lim x).length : Int) (i : Int) true := by
  intro d
  induction d with
  | zero =>
   intro i hi
   refine nat_May_l0_go (.inr ⟨by omega, ?_⟩)
   by_cases h : ((lim x).length : Int) = 0
   ·exact .inl ⟨h, rfl⟩
   ·obtain ⟨n, hn⟩ : ∃ n, (lim x).length = n + 1 := ⟨(lim x).length - 1, by omega⟩
    have hw : wi (((lim x).length : Int) - 1) = (n : Int) := by rw [hn]; exact w_pred (by omega)
    refine .inr ⟨h, ?_⟩
    rw [hw]
    refine ⟨by omega, by omega, ?_⟩
    rw [Int.toNat_natCast]
    have hnz := (norm_iff (lim x)).1 (lim_norm x)
    rw [hn, Nat.add_sub_cancel] at hnz
    rcases hnz with hnz | hnz
    ·rw [hnz] at hn; simp at hn
    ·rw [decide_eq_false hnz]; rfl
  | succ d ih =>
   intro i hi
   have hi1 : i + 1 < 9223372036854775808 := by omega
   have g := Dig.getD (by omega) (lim_dig x) i
   refine nat_May_l0_go (.inl ⟨by omega, by omega, by omega, .inr ⟨by rw [Int.toNat_natCast]; omega, ?_⟩⟩)
   rw [w_succ hi1]
   exact ih (i + 1) (by omega)
 exact nat_May_go (loop (lim x).length 0 (by omega))
theorem mul_made_is {l : List Int} (hl : Dig 4294967296 l) (hs : l.length ≤ 1099511627776) {x : Nat} (hx : val 4294967296 l = (x : Int)) : mul_made_R l (lim x) :=
 mul_made_go ⟨_, _, nat_Make_is hl hs hx, rfl⟩
theorem up64 {x : Int} (h : 0 ≤ x ∧ x < 4294967296) : 0 ≤ x ∧ x < 18446744073709551616 := ⟨h.1, by omega⟩
theorem divmod32 {T : Int} (h : 0 ≤ T ∧ T < 18446744073709551616) : (0 ≤ T % 4294967296 ∧ T % 4294967296 < 4294967296) ∧ (0 ≤ T / 4294967296 ∧ T / 4294967296 < 4294967296) ∧ T % 4294967296 + 4294967296 * (T / 4294967296) = T := by omega
theorem alg_long (vp P R u v z x y c v0 V T : Int) (e : u + 4294967296 * v = T) (hT : x * y + z + c = T) (hv : vp + P * R * c = v0 + P * (x * V)) : vp + P * R * (u - z) + P * R * 4294967296 * v = v0 + P * (x * (V + R * y)) := by grind
theorem mul_Long_inner {a b : List Int} (ha : Dig 4294967296 a) (hb : Dig 4294967296 b) (hs : a.length + b.length ≤ 100000000000) {r : List Int} {i : Nat} (hi : i < a.length) (p0 : List Int)
  (hend : ∀ q : List Int, q.length = a.length + b.length → Dig 4294967296 q → (∀ j, i + 1 + b.length ≤ j → q.getD j 0 = 0) → val 4294967296 q = val 4294967296 p0 + 4294967296 ^ i * (a.getD i 0 * val 4294967296 b) → mul_Long_l0 b a (a.length : Int) ((i + 1 : Nat) : Int) q r) (d : Nat) : ∀ (j : Nat) (p : List Int) (c : Int),
  j + d = b.length → p.length = a.length + b.length → Dig 4294967296 p → 0 ≤ c → c < 4294967296 → (∀ j, i + b.length ≤ j → p.getD j 0 = 0) → val 4294967296 p + 4294967296 ^ (i + j) * c = val 4294967296 p0 + 4294967296 ^ i * (a.getD i 0 * val 4294967296 (b.take j)) →
  mul_Long_l1 b (i : Int) (a.getD i 0) c a (a.length : Int) (i : Int) b (b.length : Int) (j : Int) p r := by
 induction d with
 | zero =>
  intro j p c hj hl hp h0 h4 hz hv
  obtain rfl : j = b.length := by omega
  have h1 : i + b.length < 9223372036854775808 := by omega
  have h2 : i + b.length < p.length := by omega
  have h3 : i + 1 < 9223372036854775808 := by omega
  refine mul_Long_l1_go (.inr ⟨by omega, w_add_nn h1, w_add_lt h1 h2, _, rfl, ?_⟩)
  rw [w_add h1, Int.toNat_natCast, w_succ h3]
  refine hend _ (by rw [List.length_set]; exact hl) (hp.set ⟨h0, h4⟩ _) (fun j hj => ?_) ?_
  ·rw [getD_set_ne (by omega)]; exact hz j (by omega)
  ·rw [val_set _ _ _ _ (by omega), hz _ (Nat.le_refl _), Int.sub_zero]
   rw [List.take_of_length_le (Nat.le_refl _)] at hv
   exact hv
 | succ d ih =>
  intro j p c hj hl hp h0 h4 hz hv
  have hij : i + j < p.length := by omega
  have hij2 : i + j < 9223372036854775808 := by omega
  have hj2 : j + 1 < 9223372036854775808 := by omega
  refine mul_Long_l1_go (.inl ⟨by omega, by omega, by omega, w_add_nn hij2, w_add_lt hij2 hij, ?_⟩)
  have ga := Dig.getD (by omega) ha i
  have gb := Dig.getD (by omega) hb j
  have gp := Dig.getD (by omega) hp (i + j)
  have hpr := prod32 (x := a.getD i 0) (y := b.getD j 0) ga.1 ga.2 gb.1 gb.2
  rw [w_add hij2, Int.toNat_natCast, Int.toNat_natCast]
  refine ⟨_, _, limb_Mul_is (up64 ga) (up64 gb) (up64 gp) (up64 ⟨h0, h4⟩), _, rfl, ?_⟩
  rw [w_succ hj2]
  rw [Int.emod_eq_of_lt ga.1 ga.2, Int.emod_eq_of_lt gb.1 gb.2, Int.emod_eq_of_lt gp.1 gp.2, Int.emod_eq_of_lt h0 h4]
  obtain ⟨T, hT⟩ : ∃ T, a.getD i 0 * b.getD j 0 + p.getD (i + j) 0 + c = T := ⟨_, rfl⟩
  have hT0 : 0 ≤ T ∧ T < 18446744073709551616 := by omega
  rw [hT]
  clear hpr
  have dm := divmod32 hT0
  refine ih (j + 1) _ _ (by omega) (by rw [List.length_set]; exact hl) (hp.set dm.1 _) dm.2.1.1 dm.2.1.2 (fun j hj => ?_) ?_
  ·rw [getD_set_ne (by omega)]; exact hz j (by omega)
  ·rw [val_set _ _ _ _ (by omega), val_take_succ', ← Nat.add_assoc, Int.pow_succ]
   have e := dm.2.2
   have hpw : (4294967296 : Int) ^ (i + j) = 4294967296 ^ i * 4294967296 ^ j := Int.pow_add ..
   rw [hpw] at hv ⊢
   exact alg_long _ _ _ _ _ _ _ _ _ _ _ _ e hT hv
theorem mul_Long_loop {a b : List Int} (ha : Dig 4294967296 a) (hb : Dig 4294967296 b) (hs : a.length + b.length ≤ 100000000000) {x : Nat} (hx : val 4294967296 a * val 4294967296 b = (x : Int)) (d : Nat) : ∀ (i : Nat) (p : List Int),
  i + d = a.length → p.length = a.length + b.length → Dig 4294967296 p → (∀ j, i + b.length ≤ j → p.getD j 0 = 0) → val 4294967296 p = val 4294967296 (a.take i) * val 4294967296 b →
  mul_Long_l0 b a (a.length : Int) (i : Int) p (lim x) := by
 induction d with
 | zero =>
  intro i p hi hl hp hz hv
  refine mul_Long_l0_go (.inr ⟨by omega, lim x, mul_made_is hp (by omega) ?_, rfl⟩)
  rw [hv, List.take_of_length_le (by omega), hx]
 | succ d ih =>
  intro i p hi hl hp hz hv
  refine mul_Long_l0_go (.inl ⟨by omega, by omega, by omega, ?_⟩)
  rw [Int.toNat_natCast]
  refine mul_Long_inner ha hb hs (i := i) (by omega) p ?_ b.length 0 p 0 (by omega) hl hp (by omega) (by omega) hz (by simp [val])
  intro q hq hqd hqz hqv
  refine ih (i + 1) q (by omega) hq hqd (fun j hj => hqz j (by omega)) ?_
  rw [hqv, hv, val_take_succ', Int.add_mul, Int.mul_assoc]
theorem mul_Long_is {x y : Nat} (hs : (lim x).length + (lim y).length ≤ 100000000000) : mul_Long_R (lim x) (lim y) (lim (x * y)) := by
 refine mul_Long_go ?_
 rw [s64i (n := ((lim x).length : Int) + ((lim y).length : Int)) (by omega) (by omega)]
 refine ⟨by omega, by omega, _, rfl, ?_⟩
 refine mul_Long_loop (lim_dig x) (lim_dig y) hs (by rw [lim_val, lim_val, Int.natCast_mul]) (lim x).length 0 _ (by omega) ?_ (Dig.zeros (by omega) _) (fun j _ => getD_zeros _ j) ?_
 ·rw [List.length_replicate]; omega
 ·rw [val_zeros]; simp [val]
end Go.Proofs.YtjcdkemnflmfiaaGreatA
namespace Go.Proofs.YtjcdkemnflmfiaaGreatA
open Go
theorem mul_cut_is {x n : Nat} (hs : (lim x).length ≤ 100000000000) (hn : n ≤ 100000000000) : mul_cut_R (lim x) (n : Int) (lim (x % 4294967296 ^ n)) (lim (x / 4294967296 ^ n)) := by
 refine mul_cut_go ?_
 rw [mn_nat]
 refine ⟨by omega, by omega, ?_⟩
 rw [Int.toNat_natCast]
 have h1 : (lim x).take (min n (lim x).length) = (lim x).take n := by
  rcases Nat.le_total n (lim x).length with h | h
  ·rw [Nat.min_eq_left h]
  ·rw [Nat.min_eq_right h, List.take_of_length_le (Nat.le_refl _), List.take_of_length_le h]
 have h2 : (lim x).drop (min n (lim x).length) = (lim x).drop n := by
  rcases Nat.le_total n (lim x).length with h | h
  ·rw [Nat.min_eq_left h]
  ·rw [Nat.min_eq_right h, List.drop_eq_nil_of_le (Nat.le_refl _), List.drop_eq_nil_of_le h]
 rw [h1, h2]
 exact ⟨_, mul_made_is ((lim_dig x).take n) (by rw [List.length_take]; omega) (lim_take x n).1, _, mul_made_is ((lim_dig x).drop n) (by rw [List.length_drop]; omega) (lim_take x n).2, rfl, rfl⟩
theorem mul_up_is {x n : Nat} (hs : (lim x).length ≤ 1000000000) (hn : n ≤ 1000000000) : mul_up_R (lim x) (n : Int) (lim (x * 4294967296 ^ n)) := by
 have h1 : n + (lim x).length < 9223372036854775808 := by omega
 refine mul_up_go ?_
 rw [w_add h1, Int.toNat_natCast]
 refine ⟨by omega, by omega, _, rfl, by omega, by rw [List.length_replicate]; omega, _, rfl, lim (x * 4294967296 ^ n), ?_, rfl⟩
 rw [Int.toNat_natCast, List.length_replicate, List.take_replicate, List.drop_replicate, Nat.min_eq_left (by omega), Nat.add_sub_cancel_left, Nat.min_self, Nat.sub_self, List.replicate_zero, List.append_nil, List.take_of_length_le (Nat.le_refl _)]
 refine mul_made_is ((Dig.zeros (by omega) _).append (lim_dig x)) (by rw [List.length_append, List.length_replicate]; omega) ?_
 rw [val_append, val_zeros, List.length_replicate, lim_val, Int.zero_add, Int.mul_comm, Int.natCast_mul, pow32]
theorem nat_Sum3 {x y z : Nat} (hx : (lim x).length ≤ 100000000000) (hxy : (lim (x + y)).length ≤ 100000000000) (hy : (lim y).length ≤ 100000000000) (hz : (lim z).length ≤ 100000000000) : nat_Sum_R [lim x, lim y, lim z] (lim (x + y + z)) := by
 have h0 : ([] : List Int) = lim 0 := (lim_nil.2 rfl).symm
 have a1 := nat_Add_is (x := 0) (y := x) (by rw [← h0]; simp) (by omega)
 rw [← h0, Nat.zero_add] at a1
 refine nat_Sum_go (nat_Sum_l0_go (.inl ⟨show (0 : Int) < ((3 : Nat) : Int) by decide, by decide, show (0 : Int) < ((3 : Nat) : Int) by decide, _, a1, ?_⟩))
 rw [show wi ((0 : Int) + 1) = 1 from s64i (by decide) (by decide)]
 refine nat_Sum_l1_go (.inl ⟨show (1 : Int) < ((3 : Nat) : Int) by decide, by decide, show (1 : Int) < ((3 : Nat) : Int) by decide, _, nat_Add_is (x := x) (y := y) (by omega) (by omega), ?_⟩)
 rw [show wi ((1 : Int) + 1) = 2 from s64i (by decide) (by decide)]
 refine nat_Sum_l1_go (.inl ⟨show (2 : Int) < ((3 : Nat) : Int) by decide, by decide, show (2 : Int) < ((3 : Nat) : Int) by decide, _, nat_Add_is (x := x + y) (y := z) (by omega) (by omega), ?_⟩)
 rw [show wi ((2 : Int) + 1) = 3 from s64i (by decide) (by decide)]
 exact nat_Sum_l1_go (.inr ⟨show ¬ (3 : Int) < ((3 : Nat) : Int) by decide, rfl⟩)
theorem alg_kara (xl xh yl yh P : Nat) : xl * yl + ((xl + xh) * (yl + yh) - xl * yl - xh * yh) * P + xh * yh * (P * P) = (xl + P * xh) * (yl + P * yh) := by
 have h : (xl + xh) * (yl + yh) = xl * yl + (xh * yh + (xl * yh + xh * yl)) := by grind
 rw [h, Nat.add_sub_cancel_left, Nat.add_sub_cancel_left]
 grind
theorem mul_Short_is (M : Nat) : ∀ {x y : Nat}, (lim x).length ≤ M → (lim y).length ≤ M → M ≤ 1000000 → mul_Short_R (lim x) (lim y) (lim (x * y)) := by
 induction M using Nat.strongRecOn with
 | _ M ih =>
  intro x y hx hy hM
  refine mul_Short_go ?_
  rw [mn_nat, mx_nat]
  by_cases hsm : min (lim x).length (lim y).length < 4
  ·exact .inl ⟨by omega, _, mul_Long_is (by omega), rfl⟩
  ·refine .inr ⟨by omega, ?_⟩
   obtain ⟨L, hL⟩ : ∃ L, L = max (lim x).length (lim y).length := ⟨_, rfl⟩
   have hL4 : 4 ≤ L := by omega
   have hLM : L ≤ M := by omega
   obtain ⟨n, hn⟩ : ∃ n, n = (L + 1) / 2 := ⟨_, rfl⟩
   have hw : wi (Int.tdiv (wi (((max (lim x).length (lim y).length : Nat) : Int) + 1)) 2) = (n : Int) := by
    rw [w_succ (by omega), td (by omega), s64i (by omega) (by omega)]; omega
   have hw2 : wi (2 * (n : Int)) = ((2 * n : Nat) : Int) := by rw [s64i (by omega) (by omega)]; omega
   rw [hw, hw2]
   clear hw hw2
   have hxl : x < 4294967296 ^ L := lim_len.1 (by omega)
   have hyl : y < 4294967296 ^ L := lim_len.1 (by omega)
   have hPpos : 0 < 4294967296 ^ n := Nat.pow_pos (by omega)
   have hLn : 4294967296 ^ L ≤ 4294967296 ^ (n + n) := Nat.pow_le_pow_right (by omega) (by omega)
   rw [Nat.pow_add] at hLn
   have hx1 : x / 4294967296 ^ n < 4294967296 ^ n := Nat.div_lt_of_lt_mul (by omega)
   have hy1 : y / 4294967296 ^ n < 4294967296 ^ n := Nat.div_lt_of_lt_mul (by omega)
   have hx0 : x % 4294967296 ^ n < 4294967296 ^ n := Nat.mod_lt _ hPpos
   have hy0 : y % 4294967296 ^ n < 4294967296 ^ n := Nat.mod_lt _ hPpos
   have hxe := Nat.mod_add_div x (4294967296 ^ n)
   have hye := Nat.mod_add_div y (4294967296 ^ n)
   obtain ⟨xl, hxl'⟩ : ∃ a, a = x % 4294967296 ^ n := ⟨_, rfl⟩
   obtain ⟨xh, hxh'⟩ : ∃ a, a = x / 4294967296 ^ n := ⟨_, rfl⟩
   obtain ⟨yl, hyl'⟩ : ∃ a, a = y % 4294967296 ^ n := ⟨_, rfl⟩
   obtain ⟨yh, hyh'⟩ : ∃ a, a = y / 4294967296 ^ n := ⟨_, rfl⟩
   refine ⟨_, _, mul_cut_is (x := x) (n := n) (by omega) (by omega), _, _, mul_cut_is (x := y) (n := n) (by omega) (by omega), ?_⟩
   rw [← hxl', ← hxh', ← hyl', ← hyh']
   rw [← hxl'] at hx0 hxe
   rw [← hxh'] at hx1 hxe
   rw [← hyl'] at hy0 hye
   rw [← hyh'] at hy1 hye
   have l0 : (lim xl).length ≤ n := lim_len.2 hx0
   have l1 : (lim xh).length ≤ n := lim_len.2 hx1
   have l2 : (lim yl).length ≤ n := lim_len.2 hy0
   have l3 : (lim yh).length ≤ n := lim_len.2 hy1
   have hP1 : 4294967296 ^ (n + 1) = 4294967296 ^ n * 4294967296 := Nat.pow_succ ..
   have l4 : (lim (xl + xh)).length ≤ n + 1 := lim_len.2 (by omega)
   have l5 : (lim (yl + yh)).length ≤ n + 1 := lim_len.2 (by omega)
   have hn1 : n + 1 < M := by omega
   have hprod : ∀ {a b m p : Nat}, (lim a).length ≤ m → (lim b).length ≤ p → (lim (a * b)).length ≤ m + p := by
    intro a b m p h1 h2
    have h1 := lim_len.1 h1
    have h2 := lim_len.1 h2
    refine lim_len.2 ?_
    rw [Nat.pow_add]
    exact Nat.mul_lt_mul'' h1 h2
   have m1 := hprod l0 l2
   have m2 := hprod l1 l3
   have m3 := hprod l4 l5
   have hsum : (xl + xh) * (yl + yh) = xl * yl + (xh * yh + (xl * yh + xh * yl)) := by grind
   have s1 : ¬ (xl + xh) * (yl + yh) < xl * yl := by omega
   have s2 : ¬ (xl + xh) * (yl + yh) - xl * yl < xh * yh := by omega
   have m4 : (lim ((xl + xh) * (yl + yh) - xl * yl)).length ≤ n + 1 + (n + 1) := Nat.le_trans (digs_len_mono (by omega) (by omega)) m3
   have m5 : (lim ((xl + xh) * (yl + yh) - xl * yl - xh * yh)).length ≤ n + 1 + (n + 1) := Nat.le_trans (digs_len_mono (by omega) (by omega)) m3
   clear hsum
   refine ⟨_, ih n (by omega) l0 l2 (by omega), ?_⟩
   refine ⟨_, ih n (by omega) l1 l3 (by omega), ?_⟩
   refine ⟨_, nat_Add_is (by omega) (by omega), ?_⟩
   refine ⟨_, nat_Add_is (by omega) (by omega), ?_⟩
   refine ⟨_, ih (n + 1) hn1 l4 l5 (by omega), ?_⟩
   have sub1 := nat_Sub_ge (x := (xl + xh) * (yl + yh)) (y := xl * yl) (by omega) (by omega) (by omega)
   have sub2 := nat_Sub_ge (x := (xl + xh) * (yl + yh) - xl * yl) (y := xh * yh) (by omega) (by omega) (by omega)
   refine ⟨_, _, sub1, _, _, sub2, _, mul_up_is (n := n) (by omega) (by omega), _, rfl, _, mul_up_is (n := 2 * n) (by omega) (by omega), ?_⟩
   have p1 : (lim (((xl + xh) * (yl + yh) - xl * yl - xh * yh) * 4294967296 ^ n)).length ≤ n + 1 + (n + 1) + (n + 1) := hprod m5 (lim_len.2 (by omega))
   have p2 : (lim (xh * yh * 4294967296 ^ (2 * n))).length ≤ n + n + (2 * n + 1) := hprod m2 (lim_len.2 (Nat.pow_lt_pow_right (by omega) (by omega)))
   have p3 : (lim (xl * yl + ((xl + xh) * (yl + yh) - xl * yl - xh * yh) * 4294967296 ^ n)).length ≤ n + n + (n + 1 + (n + 1) + (n + 1)) + 1 := by
    have q1 := lim_len.1 m1
    have q2 := lim_len.1 p1
    refine lim_len.2 ?_
    have e1 : 4294967296 ^ (n + n) ≤ 4294967296 ^ (n + n + (n + 1 + (n + 1) + (n + 1))) := Nat.pow_le_pow_right (by omega) (by omega)
    have e2 : 4294967296 ^ (n + 1 + (n + 1) + (n + 1)) ≤ 4294967296 ^ (n + n + (n + 1 + (n + 1) + (n + 1))) := Nat.pow_le_pow_right (by omega) (by omega)
    rw [Nat.pow_succ]
    omega
   refine ⟨_, nat_Sum3 (by omega) (by omega) (by omega) (by omega), ?_⟩
   have hPP : 4294967296 ^ (2 * n) = 4294967296 ^ n * 4294967296 ^ n := by rw [Nat.two_mul, Nat.pow_add]
   rw [hPP, alg_kara, hxe, hye]
theorem mul_Mul_is {x y M : Nat} (hx : (lim x).length ≤ M) (hy : (lim y).length ≤ M) (hM : M ≤ 1000000) : mul_Mul_R (lim x) (lim y) (lim (x * y)) :=
 mul_Mul_go ⟨_, mul_Short_is M hx hy hM, rfl⟩
theorem lim_mul_len {x y m p : Nat} (h1 : (lim x).length ≤ m) (h2 : (lim y).length ≤ p) : (lim (x * y)).length ≤ m + p := by
 have h1 := lim_len.1 h1
 have h2 := lim_len.1 h2
 refine lim_len.2 ?_
 rw [Nat.pow_add]
 exact Nat.mul_lt_mul'' h1 h2
theorem lim_add_len {x y m : Nat} (h1 : (lim x).length ≤ m) (h2 : (lim y).length ≤ m) : (lim (x + y)).length ≤ m + 1 := by
 have h1 := lim_len.1 h1
 have h2 := lim_len.1 h2
 refine lim_len.2 ?_
 rw [Nat.pow_succ]
 omega
theorem lim_len_mono {x y : Nat} (h : x ≤ y) : (lim x).length ≤ (lim y).length := digs_len_mono (by omega) h
theorem lim_len_one {x : Nat} (h : x < 4294967296) : (lim x).length ≤ 1 := lim_len.2 (by rw [Nat.pow_one]; exact h)
end Go.Proofs.YtjcdkemnflmfiaaGreatA
namespace Go.Proofs.YtjcdkemnflmfiaaGreatA
open Go
def Len (v : Int) (m : Nat) : Prop := v < 2 ^ m ∧ (m = 0 ∨ 2 ^ (m - 1) ≤ v)
theorem limb_Bits_loop (a : Int) (ha : 0 ≤ a ∧ a < 18446744073709551616) (d : Nat) : ∀ (i m : Nat), i + d = 32 → m ≤ i → Len (a % 2 ^ i) m →
  ∃ n : Nat, limb_Bits_l0 a (m : Int) (i : Int) (n : Int) ∧ n ≤ 32 ∧ Len (a % 4294967296) n := by
 induction d with
 | zero =>
  intro i m hi hm h
  obtain rfl : i = 32 := by omega
  exact ⟨m, limb_Bits_l0_go (.inr ⟨by omega, rfl⟩), hm, by simpa using h⟩
 | succ d ih =>
  intro i m hi hm h
  have hs : a / 2 ^ (min ((i : Int)).toNat 64) = a / 2 ^ i := by rw [Int.toNat_natCast, Nat.min_eq_left (by omega)]
  have hp := pow_pos' i
  have hq0 : 0 ≤ a / 2 ^ i := Int.ediv_nonneg ha.1 (Int.le_of_lt hp)
  have hq1 : a / 2 ^ i ≤ a := Int.ediv_le_self _ ha.1
  have hr0 := Int.emod_nonneg a (show (2 : Int) ^ i ≠ 0 by omega)
  have hr1 := Int.emod_lt_of_pos a hp
  have hsplit : a % 2 ^ (i + 1) = a / 2 ^ i % 2 * 2 ^ i + a % 2 ^ i := by
   refine (divmod_unique (q := a / 2 ^ i / 2) ?_ ?_ ?_).2
   ·have h1 := Int.mul_ediv_add_emod a (2 ^ i)
    have h2 := Int.mul_ediv_add_emod (a / 2 ^ i) 2
    rw [Int.pow_succ]
    grind
   ·have := mul_nn (x := a / 2 ^ i % 2) (y := 2 ^ i) (by omega) (by omega)
    omega
   ·rw [Int.pow_succ]
    have : a / 2 ^ i % 2 * 2 ^ i ≤ 1 * 2 ^ i := Int.mul_le_mul_of_nonneg_right (by omega) (by omega)
    omega
  have hi1 : wi ((i : Int) + 1) = ((i + 1 : Nat) : Int) := w_succ (by omega)
  by_cases hb : a / 2 ^ i % 2 = 1
  ·obtain ⟨n, h1, h2⟩ := ih (i + 1) (i + 1) (by omega) (by omega) ⟨by rw [hsplit, hb, Int.pow_succ]; omega, .inr (by rw [hsplit, hb]; simp only [Nat.add_sub_cancel]; omega)⟩
   refine ⟨n, limb_Bits_l0_go (.inl ⟨by omega, by omega, ?_⟩), h2⟩
   rw [hs, and1 hq0 (by omega), hi1]
   exact .inl ⟨hb, h1⟩
  ·have hb0 : a / 2 ^ i % 2 = 0 := by omega
   obtain ⟨n, h1, h2⟩ := ih (i + 1) m (by omega) (by omega) (by rw [hsplit, hb0, Int.zero_mul, Int.zero_add]; exact h)
   refine ⟨n, limb_Bits_l0_go (.inl ⟨by omega, by omega, ?_⟩), h2⟩
   rw [hs, and1 hq0 (by omega), hi1]
   exact .inr ⟨hb, h1⟩
theorem limb_Bits_is {a : Int} (ha : 0 ≤ a ∧ a < 18446744073709551616) : ∃ n : Nat, limb_Bits_R a (n : Int) ∧ n ≤ 32 ∧ Len (a % 4294967296) n := by
 obtain ⟨n, h1, h2⟩ := limb_Bits_loop a ha 32 0 0 (by omega) (by omega) ⟨by simp [Int.emod_one], .inl rfl⟩
 exact ⟨n, limb_Bits_go h1, h2⟩
theorem limb_Div_ok {hi lo d : Int} (ha : 0 ≤ hi ∧ hi < 18446744073709551616) (hb : 0 ≤ lo ∧ lo < 18446744073709551616) (hc : 0 ≤ d ∧ d < 18446744073709551616) (h0 : ¬ d % 4294967296 = 0) (h1 : ¬ d % 4294967296 ≤ hi % 4294967296) :
  limb_Div_R hi lo d ((hi % 4294967296 * 4294967296 + lo % 4294967296) / (d % 4294967296)) ((hi % 4294967296 * 4294967296 + lo % 4294967296) % (d % 4294967296)) 0 := by
 refine limb_Div_go ?_
 rw [and32 ha.1 ha.2, and32 hb.1 hb.2, and32 hc.1 hc.2]
 refine .inr ⟨h0, .inr ⟨h1, _, rfl, h0, ?_⟩⟩
 rw [show (2 : Int) ^ 32 = 4294967296 from rfl, w64i (n := hi % 4294967296 * 4294967296) (by omega) (by omega), or32 (by omega) (by omega) (by omega) (by omega) (by omega)]
 have hn : 0 ≤ hi % 4294967296 * 4294967296 + lo % 4294967296 := by omega
 rw [Int.tdiv_eq_ediv_of_nonneg hn, Int.tmod_eq_emod_of_nonneg hn]
 have hd : 0 < d % 4294967296 := by omega
 have hq := Int.ediv_nonneg hn (Int.le_of_lt hd)
 have hl := Int.ediv_le_self (d % 4294967296) hn
 rw [w64i hq (by omega)]
 exact ⟨rfl, rfl, rfl⟩
theorem alg_div32 (A m v u r V : Int) (h : u + m * v = 4294967296 * r + A) : A + 4294967296 * (V * m + r) = (v + 4294967296 * V) * m + u := by grind
theorem limb_Div_nat {r A m : Nat} (hr : r < m) (hA : A < 4294967296) (hm : m < 4294967296) :
  limb_Div_R (r : Int) (A : Int) (m : Int) (((4294967296 * r + A) / m : Nat) : Int) (((4294967296 * r + A) % m : Nat) : Int) 0 := by
 have := limb_Div_ok (hi := (r : Int)) (lo := (A : Int)) (d := (m : Int)) (by omega) (by omega) (by omega) (by omega) (by omega)
 have e1 : (r : Int) % 4294967296 * 4294967296 + (A : Int) % 4294967296 = ((4294967296 * r + A : Nat) : Int) := by omega
 have e2 : (m : Int) % 4294967296 = (m : Int) := by omega
 rw [e1, e2, ← Int.natCast_ediv, ← Int.natCast_emod] at this
 exact this
theorem divide_Small_loop {a : List Int} (ha : Dig 4294967296 a) {m : Nat} (hm0 : 0 < m) (hm : m < 4294967296) (hs : a.length ≤ 1000000000) {x : Nat} (hx : val 4294967296 a = (x : Int)) : ∀ (i j : Nat) (o : List Int) (r : Nat),
    i + j = a.length → o.length = a.length → Dig 4294967296 o → r < m → val 4294967296 (a.drop i) = val 4294967296 (o.drop i) * (m : Int) + (r : Int) →
    divide_Small_l0 a (m : Int) (r : Int) (a.length : Int) (j : Int) o (lim (x / m)) ((x % m : Nat) : Int) 0 := by
  intro i
  induction i with
  | zero =>
    intro j o r hij ho hdg hr hv
    rw [List.drop_zero, List.drop_zero, hx] at hv
    have hu := divmod_unique (n := (x : Int)) (d := (m : Int)) (q := val 4294967296 o) (r := (r : Int)) hv.symm (by omega) (by omega)
    refine divide_Small_l0_go (.inr ⟨by omega, lim (x / m), 0, nat_Make_is hdg (by omega) ?_, rfl, ?_, rfl⟩)
    · rw [← hu.1, Int.natCast_ediv]
    · rw [← hu.2, Int.natCast_emod]
  | succ i ih =>
    intro j o r hij ho hdg hr hv
    have hw : wi (wi ((a.length : Int) - 1) - (j : Int)) = (i : Int) := by
      rw [s64i (n := (a.length : Int) - 1) (by omega) (by omega), s64i (by omega) (by omega)]; omega
    have ga := Dig.getD (by omega) ha i
    obtain ⟨A, hA⟩ := Int.eq_ofNat_of_zero_le ga.1
    have hA' := hA
    rw [hA] at ga
    refine divide_Small_l0_go (.inl ⟨by omega, ?_⟩)
    rw [hw, Int.toNat_natCast, hA']
    refine ⟨by omega, by omega, _, _, _, limb_Div_nat hr (by omega) hm, by omega, _, rfl, ?_⟩
    have hq : (4294967296 * r + A) / m < 4294967296 := Nat.div_lt_of_lt_mul (by have : 4294967296 * (r + 1) ≤ 4294967296 * m := Nat.mul_le_mul_left _ hr
                                                                                rw [Nat.mul_comm m]; omega)
    have hrm := Nat.mod_lt (4294967296 * r + A) hm0
    have hdm := Nat.mod_add_div (4294967296 * r + A) m
    generalize (4294967296 * r + A) / m = q at hq hdm ⊢
    generalize (4294967296 * r + A) % m = u at hrm hdm ⊢
    rw [w_succ (by omega)]
    refine ih (j + 1) _ u (by omega) (by rw [List.length_set]; exact ho) (hdg.set (by omega) _) hrm ?_
    rw [val_drop _ a i (by omega), val_drop _ (o.set i _) i (by rw [List.length_set]; omega), hv, getD_set_eq (by omega), List.drop_set_of_lt (by omega), hA']
    refine alg_div32 _ _ _ _ _ _ ?_
    rw [← Int.natCast_mul, ← Int.natCast_add, hdm]; omega
theorem divide_Small_is {x m : Nat} (hx : (lim x).length ≤ 1000000000) (hm0 : 0 < m) (hm : m < 4294967296) : divide_Small_R (lim x) (m : Int) (lim (x / m)) ((x % m : Nat) : Int) 0 := by
 refine divide_Small_go (.inr ⟨by rw [tm (by omega)]; omega, by omega, by omega, _, rfl, ?_⟩)
 rw [Int.toNat_natCast]
 refine divide_Small_loop (lim_dig x) hm0 hm hx (lim_val x) (lim x).length 0 _ 0 (by omega) (by rw [List.length_replicate]) (Dig.zeros (by omega) _) hm0 ?_
 rw [List.drop_of_length_le (Nat.le_refl _), List.drop_of_length_le (by rw [List.length_replicate]; exact Nat.le_refl _)]
 simp [val]
end Go.Proofs.YtjcdkemnflmfiaaGreatA
namespace Go.Proofs.YtjcdkemnflmfiaaGreatA
open Go
theorem ref_Trim_loop {l : List Int} (hl : Dig 10000 l) (hs : l.length ≤ 1099511627776) {x : Nat} (hx : val 10000 l = (x : Int)) : ∀ n : Nat, n ≤ l.length → (∀ j, n ≤ j → l.getD j 0 = 0) → ref02_Trim_l0 l (n : Int) (ten x) := by
 intro n
 induction n with
 | zero =>
  intro hn hz
  have hx0 : x = 0 := by
   have := val_all_zeros 10000 l (fun j => hz j (by omega))
   omega
  refine ref02_Trim_l0_go (.inr ⟨by omega, by omega, by omega, by simp, _, rfl, ?_⟩)
  rw [hx0, show ten 0 = [] from ten_nil.2 rfl]; rfl
 | succ n ih =>
  intro hn hz
  have hn2 : n < 9223372036854775808 := by omega
  refine ref02_Trim_l0_go (.inl ⟨by omega, ?_⟩)
  rw [w_pred hn2]
  refine ⟨by omega, by omega, ?_⟩
  rw [Int.toNat_natCast]
  by_cases h : l.getD n 0 = 0
  ·refine .inl ⟨h, ih (by omega) (fun j hj => ?_)⟩
   rcases Nat.lt_or_ge n j with h1 | h1
   ·exact hz j h1
   ·rw [show j = n by omega]; exact h
  ·refine .inr ⟨h, by omega, by omega, by rw [List.length_take]; omega, _, rfl, ?_⟩
   rw [Int.toNat_natCast, take_digs (b := 10000) (by omega) hl (by omega) hz h hx]
theorem ref_Trim_is {l : List Int} (hl : Dig 10000 l) (hs : l.length ≤ 1099511627776) {x : Nat} (hx : val 10000 l = (x : Int)) : ref02_Trim_R l (ten x) :=
 ref02_Trim_go (ref_Trim_loop hl hs hx l.length (Nat.le_refl _) (fun j hj => getD_ge hj))
theorem ref_Trim_nil : ref02_Trim_R [] [] := by
 have := ref_Trim_is (l := []) (x := 0) (Dig.nil _) (by simp) rfl
 rwa [show ten 0 = [] from ten_nil.2 rfl] at this
theorem ref_MulAdd_tail {x : Nat} (d : Nat) : ∀ (c : Nat) (o : List Int), c < 10000 ^ d → c ≤ 9223372036854775807 → o.length + d ≤ 1000000000000 → Dig 10000 o → val 10000 o + 10000 ^ o.length * (c : Int) = (x : Int) → ref02_MulAdd_l4 (c : Int) o (ten x) := by
 induction d with
 | zero =>
  intro c o hc hc2 ho hdg hv
  obtain rfl : c = 0 := by rw [Nat.pow_zero] at hc; omega
  refine ref02_MulAdd_l4_go (.inr ⟨by omega, _, ref_Trim_is hdg (by omega) ?_, rfl⟩)
  rw [← hv]; simp
 | succ d ih =>
  intro c o hc hc2 ho hdg hv
  by_cases h0 : c = 0
  ·subst h0
   refine ref02_MulAdd_l4_go (.inr ⟨by omega, _, ref_Trim_is hdg (by omega) ?_, rfl⟩)
   rw [← hv]; simp
  ·rw [Nat.pow_succ] at hc
   refine ref02_MulAdd_l4_go (.inl ⟨by omega, by omega, _, rfl, ?_⟩)
   rw [td (by omega), tm (by omega), s64i (by omega) (by omega)]
   have e1 : (c : Int) / 10000 = ((c / 10000 : Nat) : Int) := by omega
   rw [e1]
   refine ih (c / 10000) _ (by omega) (by omega) (by rw [List.length_append]; simp; omega) (hdg.append (Dig.cons (by omega) (Dig.nil _))) ?_
   rw [val_snoc, List.length_append, List.length_cons, List.length_nil, Int.pow_succ, ← hv]
   have e2 : (c : Int) = (c : Int) % 10000 + 10000 * ((c / 10000 : Nat) : Int) := by omega
   generalize (10000 : Int) ^ o.length = P
   generalize (c : Int) % 10000 = u at e2 ⊢
   generalize ((c / 10000 : Nat) : Int) = v at e2 ⊢
   rw [e2, Int.mul_add, Int.mul_assoc, Int.add_assoc]
theorem ref_MulAdd_tail3 {x : Nat} (c : Nat) (o : List Int) (hc : c ≤ 900000000000) (ho : o.length + 4 ≤ 1000000000000) (hdg : Dig 10000 o) (hv : val 10000 o + 10000 ^ o.length * (c : Int) = (x : Int)) : ref02_MulAdd_l3 (c : Int) o (ten x) := by
 by_cases h0 : c = 0
 ·subst h0
  refine ref02_MulAdd_l3_go (.inr ⟨by omega, _, ref_Trim_is hdg (by omega) ?_, rfl⟩)
  rw [← hv]; simp
 ·refine ref02_MulAdd_l3_go (.inl ⟨by omega, by omega, _, rfl, ?_⟩)
  rw [td (by omega), tm (by omega), s64i (by omega) (by omega)]
  have e1 : (c : Int) / 10000 = ((c / 10000 : Nat) : Int) := by omega
  rw [e1]
  refine ref_MulAdd_tail 3 (c / 10000) _ (by omega) (by omega) (by rw [List.length_append]; simp; omega) (hdg.append (Dig.cons (by omega) (Dig.nil _))) ?_
  rw [val_snoc, List.length_append, List.length_cons, List.length_nil, Int.pow_succ, ← hv]
  have e2 : (c : Int) = (c : Int) % 10000 + 10000 * ((c / 10000 : Nat) : Int) := by omega
  generalize (10000 : Int) ^ o.length = P
  generalize (c : Int) % 10000 = u at e2 ⊢
  generalize ((c / 10000 : Nat) : Int) = v at e2 ⊢
  rw [e2, Int.mul_add, Int.mul_assoc, Int.add_assoc]
theorem ref_MulAdd_tail2 {x : Nat} (hc : x ≤ 9223372036854775807) : ref02_MulAdd_l2 (x : Int) (ten x) := by
 by_cases h0 : x = 0
 ·subst h0
  rw [show ten 0 = [] from ten_nil.2 rfl]
  exact ref02_MulAdd_l2_go (.inr ⟨by omega, _, ref_Trim_nil, rfl⟩)
 ·refine ref02_MulAdd_l2_go (.inl ⟨by omega, by omega, _, rfl, ?_⟩)
  rw [td (by omega), tm (by omega), s64i (by omega) (by omega)]
  have e1 : (x : Int) / 10000 = ((x / 10000 : Nat) : Int) := by omega
  rw [e1]
  refine ref_MulAdd_tail 4 (x / 10000) _ (by omega) (by omega) (by simp) (Dig.cons (by omega) (Dig.nil _)) ?_
  rw [val_cons, val_nil, List.length_singleton]; omega
theorem alg_muladd (vo P A m c u v V c0 : Int) (e : u + 10000 * v = c + A * m) (hv : vo + P * c = V * m + c0) : vo + P * u + P * 10000 * v = (V + P * A) * m + c0 := by grind
theorem ref_MulAdd_loop {a : List Int} (ha : Dig 10000 a) {m : Nat} (hm : m ≤ 4294967296) (hs : a.length ≤ 100000000000) {c0 : Int} {x : Nat} (hx : val 10000 a * (m : Int) + c0 = (x : Int)) (d : Nat) : ∀ (i : Nat) (o : List Int) (c : Nat),
  i + d = a.length → o.length = i → Dig 10000 o → c ≤ 8589934592 → val 10000 o + 10000 ^ i * (c : Int) = val 10000 (a.take i) * (m : Int) + c0 →
  (o = [] → ref02_MulAdd_l0 a (m : Int) (c : Int) (i : Int) (ten x)) ∧ (o ≠ [] → ref02_MulAdd_l1 a (m : Int) (c : Int) (i : Int) o (ten x)) := by
 induction d with
 | zero =>
  intro i o c hi ho hdg hc hv
  rw [List.take_of_length_le (by omega), hx] at hv
  refine ⟨fun h => ?_, fun h => ?_⟩
  ·subst h
   refine ref02_MulAdd_l0_go (.inr ⟨by omega, ?_⟩)
   have h0 : i = 0 := by rw [← ho]; rfl
   subst h0
   rw [val_nil] at hv
   have : c = x := by omega
   subst this
   exact ref_MulAdd_tail2 (by omega)
  ·exact ref02_MulAdd_l1_go (.inr ⟨by omega, ref_MulAdd_tail3 c o (by omega) (by omega) hdg (by rw [ho, hv])⟩)
 | succ d ih =>
  intro i o c hi ho hdg hc hv
  have hi1 : i + 1 < 9223372036854775808 := by omega
  have ga := Dig.getD (by omega) ha i
  obtain ⟨A, hA⟩ := Int.eq_ofNat_of_zero_le ga.1
  have hA' := hA
  rw [hA] at ga
  have hAm : A * m ≤ 9999 * 4294967296 := Nat.mul_le_mul (by omega) hm
  have e1 : a.getD i 0 * (m : Int) = ((A * m : Nat) : Int) := by rw [hA, Int.natCast_mul]
  have e2 : ((c : Int) + ((A * m : Nat) : Int)) / 10000 = (((c + A * m) / 10000 : Nat) : Int) := by omega
  have e3 : ((c : Int) + ((A * m : Nat) : Int)) % 10000 = (((c + A * m) % 10000 : Nat) : Int) := by omega
  have key := ih (i + 1) (o ++ [(((c + A * m) % 10000 : Nat) : Int)]) ((c + A * m) / 10000) (by omega) (by rw [List.length_append]; simp; omega) (hdg.append (Dig.cons (by omega) (Dig.nil _))) (by omega) (by
   rw [val_snoc, ho, val_take_succ', Int.pow_succ]
   refine alg_muladd _ _ _ _ _ _ _ _ _ ?_ hv
   rw [e1]; omega)
  refine ⟨fun h => ?_, fun h => ?_⟩
  ·subst h
   refine ref02_MulAdd_l0_go (.inl ⟨by omega, by omega, by omega, _, rfl, ?_⟩)
   rw [Int.toNat_natCast, w_succ hi1, e1, s64i (n := ((A * m : Nat) : Int)) (by omega) (by omega), s64i (n := (c : Int) + ((A * m : Nat) : Int)) (by omega) (by omega), td (by omega), tm (by omega), s64i (by omega) (by omega), e2, e3]
   exact key.2 (by simp)
  ·refine ref02_MulAdd_l1_go (.inl ⟨by omega, by omega, by omega, _, rfl, ?_⟩)
   rw [Int.toNat_natCast, w_succ hi1, e1, s64i (n := ((A * m : Nat) : Int)) (by omega) (by omega), s64i (n := (c : Int) + ((A * m : Nat) : Int)) (by omega) (by omega), td (by omega), tm (by omega), s64i (by omega) (by omega), e2, e3]
   exact key.2 (by simp)
theorem ref_MulAdd_is {x m c : Nat} (hx : (ten x).length ≤ 100000000000) (hm : m ≤ 4294967296) (hc : c ≤ 4294967296) : ref02_MulAdd_R (ten x) (m : Int) (c : Int) (ten (x * m + c)) := by
 refine ref02_MulAdd_go ((ref_MulAdd_loop (ten_dig x) hm hx (c0 := (c : Int)) ?_ (ten x).length 0 [] c (by omega) rfl (Dig.nil _) (by omega) (by simp [val])).1 rfl)
 rw [ten_val, Int.natCast_add, Int.natCast_mul]
theorem alg_divs (A m v u r V : Int) (h : u + m * v = 10000 * r + A) : A + 10000 * (V * m + r) = (v + 10000 * V) * m + u := by grind
theorem ref_DivSmall_loop {a : List Int} (ha : Dig 10000 a) {m : Nat} (hm0 : 0 < m) (hm : m ≤ 4294967296) (hs : a.length ≤ 100000000000) {x : Nat} (hx : val 10000 a = (x : Int)) : ∀ (i : Nat) (o : List Int) (r : Nat),
    i ≤ a.length → o.length = a.length → Dig 10000 o → r < m → val 10000 (a.drop i) = val 10000 (o.drop i) * (m : Int) + (r : Int) → ref02_DivSmall_l0 a (m : Int) (r : Int) ((i : Int) - 1) o (ten (x / m)) ((x % m : Nat) : Int) := by
  intro i
  induction i with
  | zero =>
    intro o r hi ho hdg hr hv
    rw [List.drop_zero, List.drop_zero, hx] at hv
    have hu := divmod_unique (n := (x : Int)) (d := (m : Int)) (q := val 10000 o) (r := (r : Int)) hv.symm (by omega) (by omega)
    refine ref02_DivSmall_l0_go (.inr ⟨by omega, ten (x / m), ref_Trim_is hdg (by omega) ?_, rfl, ?_⟩)
    · rw [← hu.1, Int.natCast_ediv]
    · rw [← hu.2, Int.natCast_emod]
  | succ i ih =>
    intro o r hi ho hdg hr hv
    have hw : ((i + 1 : Nat) : Int) - 1 = (i : Int) := by omega
    rw [hw]
    have ga := Dig.getD (by omega) ha i
    obtain ⟨A, hA⟩ := Int.eq_ofNat_of_zero_le ga.1
    have hA' := hA
    rw [hA] at ga
    refine ref02_DivSmall_l0_go (.inl ⟨by omega, by omega, by omega, by omega, _, rfl, ?_⟩)
    rw [Int.toNat_natCast, hA', s64i (n := (10000 : Int) * (r : Int)) (by omega) (by omega), s64i (n := (10000 : Int) * (r : Int) + (A : Int)) (by omega) (by omega), td (by omega), tm (by omega)]
    have e0 : (10000 : Int) * (r : Int) + (A : Int) = ((10000 * r + A : Nat) : Int) := by omega
    have hq : (10000 * r + A) / m < 10000 := Nat.div_lt_of_lt_mul (by have : 10000 * (r + 1) ≤ 10000 * m := Nat.mul_le_mul_left _ hr
                                                                      rw [Nat.mul_comm m]; omega)
    have hrm := Nat.mod_lt (10000 * r + A) hm0
    have hdm := Nat.mod_add_div (10000 * r + A) m
    have e1 : ((10000 * r + A : Nat) : Int) / (m : Int) = (((10000 * r + A) / m : Nat) : Int) := (Int.natCast_ediv _ _).symm
    have e2 : ((10000 * r + A : Nat) : Int) % (m : Int) = (((10000 * r + A) % m : Nat) : Int) := (Int.natCast_emod _ _).symm
    rw [e0, e1, e2, s64i (n := (i : Int) - 1) (by omega) (by omega)]
    clear e0 e1 e2
    generalize (10000 * r + A) / m = q at hq hdm ⊢
    generalize (10000 * r + A) % m = u at hrm hdm ⊢
    rw [s64i (by omega) (by omega)]
    refine ih _ _ (by omega) (by rw [List.length_set]; exact ho) (hdg.set (by omega) _) hrm ?_
    rw [val_drop _ a i (by omega), val_drop _ (o.set i _) i (by rw [List.length_set]; omega), hv, getD_set_eq (by omega), List.drop_set_of_lt (by omega), hA']
    refine alg_divs _ _ _ _ _ _ ?_
    rw [← Int.natCast_mul, ← Int.natCast_add, hdm]; omega
theorem ref_DivSmall_is {x m : Nat} (hx : (ten x).length ≤ 100000000000) (hm0 : 0 < m) (hm : m ≤ 4294967296) : ref02_DivSmall_R (ten x) (m : Int) (ten (x / m)) ((x % m : Nat) : Int) := by
 refine ref02_DivSmall_go ⟨by omega, by omega, _, rfl, ?_⟩
 rw [s64i (by omega) (by omega), Int.toNat_natCast]
 refine ref_DivSmall_loop (ten_dig x) hm0 hm hx (ten_val x) (ten x).length _ 0 (Nat.le_refl _) (by rw [List.length_replicate]) (Dig.zeros (by omega) _) hm0 ?_
 rw [List.drop_eq_nil_of_le (Nat.le_refl _), List.drop_eq_nil_of_le (by rw [List.length_replicate]; exact Nat.le_refl _)]
 simp [val]
theorem ref_Back_loop {N : Nat} (hN : N ≤ 100000000000) (x : Nat) : ∀ (o : List Int), (ten x).length ≤ N → o.length + (lim x).length ≤ N → (o = [] → ref02_Back_l0 (ten x) (o ++ lim x)) ∧ (o ≠ [] → ref02_Back_l1 (ten x) o (o ++ lim x)) := by
 refine digs_ind (P := fun x => ∀ (o : List Int), (ten x).length ≤ N → o.length + (lim x).length ≤ N → (o = [] → ref02_Back_l0 (ten x) (o ++ lim x)) ∧ (o ≠ [] → ref02_Back_l1 (ten x) o (o ++ lim x))) 4294967296 (by omega) ?_ ?_ x
 ·intro o h1 h2
  rw [show ten 0 = [] from ten_nil.2 rfl, show lim 0 = [] from lim_nil.2 rfl, List.append_nil]
  refine ⟨fun h => ?_, fun h => ?_⟩
  ·subst h; exact ref02_Back_l0_go (.inr ⟨by simp, rfl⟩)
  ·exact ref02_Back_l1_go (.inr ⟨by simp, rfl⟩)
 ·intro x hx ih o h1 h2
  have hne : ten x ≠ [] := fun h => by have := ten_nil.1 h; omega
  have hpos : 0 < (ten x).length := List.length_pos_iff.2 hne
  have hlx : lim x = ((x % 4294967296 : Nat) : Int) :: lim (x / 4294967296) := digs_pos (by omega) hx
  rw [hlx, List.length_cons] at h2
  have hw : wu ((x % 4294967296 : Nat) : Int) = ((x % 4294967296 : Nat) : Int) := w64i (by omega) (by omega)
  have key := (ih (o ++ [((x % 4294967296 : Nat) : Int)]) (Nat.le_trans (digs_len_mono (by omega) (Nat.div_le_self _ _)) h1) (by rw [List.length_append, List.length_singleton]; omega)).2 (by simp)
  have hd := ref_DivSmall_is (x := x) (m := 4294967296) (by omega) (by omega) (by omega)
  rw [hlx, List.append_cons o _ (lim (x / 4294967296))]
  refine ⟨fun h => ?_, fun h => ?_⟩
  ·subst h
   exact ref02_Back_l0_go (.inl ⟨by omega, _, _, hd, by omega, _, rfl, by rw [hw]; exact key⟩)
  ·exact ref02_Back_l1_go (.inl ⟨by omega, _, _, hd, by omega, _, rfl, by rw [hw]; exact key⟩)
theorem ref_Back_is {x : Nat} (h1 : (ten x).length ≤ 100000000000) (h2 : (lim x).length ≤ 100000000000) : ref02_Back_R (ten x) (lim x) :=
 ref02_Back_go ((ref_Back_loop (N := 100000000000) (by omega) x [] h1 (by simpa using h2)).1 rfl)
theorem ref_Of_loop {x : Nat} (hs : (lim x).length ≤ 10000000000) (ht : (ten x).length ≤ 100000000000) : ∀ i : Nat, i ≤ (lim x).length → ref02_Of_l1 (lim x) (ten (x / 4294967296 ^ i)) ((i : Int) - 1) (ten x) := by
 intro i
 induction i with
 | zero =>
  intro hi
  rw [Nat.pow_zero, Nat.div_one]
  exact ref02_Of_l1_go (.inr ⟨by omega, rfl⟩)
 | succ i ih =>
  intro hi
  have hw : ((i + 1 : Nat) : Int) - 1 = (i : Int) := by omega
  rw [hw]
  have hi2 : i < (lim x).length := by omega
  have gx := Dig.getD (by omega) (lim_dig x) i
  have hv := val_drop 4294967296 (lim x) i hi2
  rw [(lim_take x i).2, (lim_take x (i + 1)).2] at hv
  obtain ⟨c, hc⟩ := Int.eq_ofNat_of_zero_le gx.1
  rw [hc] at hv gx
  have hl : (ten (x / 4294967296 ^ (i + 1))).length ≤ 100000000000 := Nat.le_trans (digs_len_mono (by omega) (Nat.div_le_self _ _)) ht
  have e : x / 4294967296 ^ (i + 1) * 4294967296 + c = x / 4294967296 ^ i := by omega
  have hm := ref_MulAdd_is (m := 4294967296) (c := c) hl (by omega) (by omega)
  rw [e] at hm
  refine ref02_Of_l1_go (.inl ⟨by omega, by omega, ten (x / 4294967296 ^ i), ?_, ?_⟩)
  ·rw [Int.toNat_natCast, hc, tm (by omega), Int.emod_eq_of_lt (by omega) (by omega), s64i (by omega) (by omega)]
   exact hm
  ·rw [s64i (n := (i : Int) - 1) (by omega) (by omega)]
   exact ih (by omega)
theorem ref_Of_is {x : Nat} (hs : (lim x).length ≤ 10000000000) (ht : (ten x).length ≤ 100000000000) : ref02_Of_R (lim x) (ten x) := by
 refine ref02_Of_go ?_
 rw [s64i (by omega) (by omega)]
 have ten0 : ten 0 = [] := ten_nil.2 rfl
 rcases Nat.eq_zero_or_pos (lim x).length with h | h
 ·have hx : x = 0 := lim_nil.1 (List.eq_nil_of_length_eq_zero h)
  subst hx
  rw [ten0]
  exact ref02_Of_l0_go (.inr ⟨by omega, rfl⟩)
 ·obtain ⟨i, hi⟩ : ∃ i, (lim x).length = i + 1 := ⟨(lim x).length - 1, by omega⟩
  have hw : ((lim x).length : Int) - 1 = (i : Int) := by omega
  rw [hw]
  have gx := Dig.getD (by omega) (lim_dig x) i
  have hv := val_drop 4294967296 (lim x) i (by omega)
  have h0 : x / 4294967296 ^ (i + 1) = 0 := Nat.div_eq_of_lt (lim_len.1 (by omega))
  rw [(lim_take x i).2, (lim_take x (i + 1)).2, h0] at hv
  obtain ⟨c, hc⟩ := Int.eq_ofNat_of_zero_le gx.1
  rw [hc] at hv gx
  have e : 0 * 4294967296 + c = x / 4294967296 ^ i := by omega
  have hm := ref_MulAdd_is (x := 0) (m := 4294967296) (c := c) (by rw [ten0]; simp) (by omega) (by omega)
  rw [e, ten0] at hm
  refine ref02_Of_l0_go (.inl ⟨by omega, by omega, ten (x / 4294967296 ^ i), ?_, ?_⟩)
  ·rw [Int.toNat_natCast, hc, tm (by omega), Int.emod_eq_of_lt (by omega) (by omega), s64i (by omega) (by omega)]
   exact hm
  ·rw [s64i (n := (i : Int) - 1) (by omega) (by omega)]
   exact ref_Of_loop hs ht i (by omega)
theorem ten_of_lim {x n : Nat} (h : (lim x).length ≤ n) : (ten x).length ≤ 3 * n := by
 have h1 := lim_len.1 h
 refine ten_len.2 (Nat.lt_of_lt_of_le h1 ?_)
 rw [Nat.pow_mul]
 exact Nat.pow_le_pow_left (by omega) n
end Go.Proofs.YtjcdkemnflmfiaaGreatA
namespace Go.Proofs.YtjcdkemnflmfiaaGreatA
open Go
theorem alg_shl (V P a s t u : Int) (h : t + 4294967296 * u = a * s) : V * s + (P * t + P * 4294967296 * u) = (V + P * a) * s := by grind
theorem pow_le31 {s : Nat} (hs : s < 32) : 2 ^ s ≤ 2147483648 := by
 have h2 : 2 ^ s ≤ 2 ^ 31 := Nat.pow_le_pow_right (by omega) (by omega)
 have h4 : (2 : Nat) ^ 31 = 2147483648 := by decide
 omega
theorem shl_nat {A s : Nat} (hA : A < 4294967296) (hs : s < 32) : wu ((A : Int) * 2 ^ (min s 64)) = ((A * 2 ^ s : Nat) : Int) := by
 have h3 : A * 2 ^ s ≤ 4294967296 * 2147483648 := Nat.mul_le_mul (by omega) (pow_le31 hs)
 rw [Nat.min_eq_left (by omega)]
 have h5 : ((A : Int) * 2 ^ s) = ((A * 2 ^ s : Nat) : Int) := by
  rw [Int.natCast_mul, Int.natCast_pow]; rfl
 rw [h5, w64i (by omega) (by omega)]
theorem shr_nat' {A s : Nat} (hs : s < 32) : (A : Int) / 2 ^ (min s 64) = ((A / 2 ^ s : Nat) : Int) := by
 rw [Nat.min_eq_left (by omega), Int.natCast_ediv, Int.natCast_pow]; rfl
theorem mul_pow_mod (A : Nat) {s : Nat} (hs : s < 32) : A * 2 ^ s % 4294967296 = 2 ^ s * (A % 2 ^ (32 - s)) := by
 have h : (4294967296 : Nat) = 2 ^ s * 2 ^ (32 - s) := by
  rw [← Nat.pow_add, show s + (32 - s) = 32 by omega]
 rw [h, Nat.mul_comm A, Nat.mul_mod_mul_left]
theorem or_carry {c A s : Nat} (hs : s < 32) (hc : c < 2 ^ s) : Go.bits .or .u64 (c : Int) ((A * 2 ^ s % 4294967296 : Nat) : Int) = ((c + A * 2 ^ s % 4294967296 : Nat) : Int) := by
 have h1 := pow_le31 hs
 have h2 : A * 2 ^ s % 4294967296 < 4294967296 := Nat.mod_lt _ (by omega)
 rw [(bits_nat .u64 64 (by decide) wraps_u64' c (A * 2 ^ s % 4294967296) (by simp; omega) (by simp; omega)).2, mul_pow_mod A hs, Nat.or_comm, ← Nat.two_pow_add_eq_or_of_lt hc, Nat.add_comm]
theorem carry_lt {c A s : Nat} (hs : s < 32) (hc : c < 2 ^ s) : c + A * 2 ^ s % 4294967296 < 4294967296 := by
 rw [mul_pow_mod A hs]
 have h : (4294967296 : Nat) = 2 ^ s * 2 ^ (32 - s) := by
  rw [← Nat.pow_add, show s + (32 - s) = 32 by omega]
 have h2 : A % 2 ^ (32 - s) < 2 ^ (32 - s) := Nat.mod_lt _ (Nat.two_pow_pos _)
 have h3 : 2 ^ s * (A % 2 ^ (32 - s) + 1) ≤ 2 ^ s * 2 ^ (32 - s) := Nat.mul_le_mul_left _ h2
 rw [Nat.mul_add, Nat.mul_one] at h3
 omega
theorem carry_next {A s : Nat} (hA : A < 4294967296) (hs : s < 32) : A * 2 ^ s / 4294967296 < 2 ^ s := by
 refine Nat.div_lt_of_lt_mul ?_
 exact Nat.mul_lt_mul_of_pos_right hA (Nat.two_pow_pos _)
theorem nat_Shl_loop {a : List Int} (ha : Dig 4294967296 a) (hl : a.length ≤ 1000000000) {s : Nat} (hs : s < 32) {x : Nat} (hx : val 4294967296 a = (x : Int)) (d : Nat) : ∀ (i : Nat) (z : List Int) (c : Nat),
  i + d = a.length → z.length = a.length + 1 → Dig 4294967296 z → z.getD i 0 = (c : Int) → c < 2 ^ s → (∀ j, i < j → z.getD j 0 = 0) → val 4294967296 z = val 4294967296 (a.take i) * ((2 ^ s : Nat) : Int) →
  nat_Shl_l0 (s : Int) a (a.length : Int) (i : Int) z (lim (x * 2 ^ s)) 0 := by
 have hw0 : ∀ _ : Unit, wi (Int.tdiv (s : Int) 32) = 0 := fun _ => by
  rw [td (by omega), s64i (by omega) (by omega)]; omega
 have hm0 : ∀ _ : Unit, Int.tmod (s : Int) 32 = (s : Int) := fun _ => by rw [tm (by omega)]; omega
 induction d with
 | zero =>
  intro i z c hi hz hdz hc hc2 h0 hv
  obtain rfl : i = a.length := by omega
  rw [List.take_of_length_le (Nat.le_refl _), hx, ← Int.natCast_mul] at hv
  exact nat_Shl_l0_go (.inr ⟨by omega, _, nat_trim_is hdz (by omega) hv, rfl, rfl⟩)
 | succ d ih =>
  intro i z c hi hz hdz hc hc2 h0 hv
  have ga := Dig.getD (by omega) ha i
  obtain ⟨A, hA⟩ := Int.eq_ofNat_of_zero_le ga.1
  rw [hA] at ga
  have hi0 : ∀ _ : Unit, wi ((i : Int) + 0) = (i : Int) := fun _ => by rw [s64i (by omega) (by omega)]; omega
  have hA2 : A < 4294967296 := by omega
  have hcl := carry_lt (A := A) hs hc2
  have hcn := carry_next hA2 hs
  have hp := pow_le31 hs
  refine nat_Shl_l0_go (.inl ⟨by omega, by omega, by omega, by rw [hm0 ()]; omega, by rw [hw0 (), hi0 ()]; omega, by rw [hw0 (), hi0 ()]; omega, _, rfl, _, rfl, _, rfl, by rw [hw0 (), hi0 (), w_succ (by omega)]; omega, by rw [hw0 (), hi0 (), w_succ (by omega), List.length_set]; omega, _, rfl, ?_⟩)
  rw [hw0 (), hi0 (), w_succ (by omega), hm0 (), Int.toNat_natCast, Int.toNat_natCast, Int.toNat_natCast, hc, hA, shl_nat hA2 hs, tm (by omega), show (2 : Int) ^ 32 = 4294967296 from rfl]
  have e1 : ((A * 2 ^ s : Nat) : Int) % 4294967296 = ((A * 2 ^ s % 4294967296 : Nat) : Int) := by rw [Int.natCast_emod]; rfl
  have e2 : ((A * 2 ^ s : Nat) : Int) / 4294967296 = ((A * 2 ^ s / 4294967296 : Nat) : Int) := by rw [Int.natCast_ediv]; rfl
  rw [e1, e2, or_carry hs hc2]
  have e3 : A * 2 ^ s % 4294967296 + 4294967296 * (A * 2 ^ s / 4294967296) = A * 2 ^ s := Nat.mod_add_div _ _
  clear e1 e2
  generalize A * 2 ^ s % 4294967296 = t at *
  generalize A * 2 ^ s / 4294967296 = u at *
  refine ih (i + 1) _ u (by omega) (by rw [List.length_set, List.length_set]; exact hz) ((hdz.set (by omega) _).set (by omega) _) ?_ hcn ?_ ?_
  ·rw [getD_set_eq (by rw [List.length_set]; omega)]
  ·intro j hj
   rw [getD_set_ne (by omega), getD_set_ne (by omega)]
   exact h0 j (by omega)
  ·rw [val_set _ _ _ _ (by rw [List.length_set]; omega), val_set _ _ _ _ (by omega), getD_set_ne (by omega), hc, h0 (i + 1) (by omega), hv, val_take_succ _ _ _ (by omega), hA, Int.pow_succ]
   have h := alg_shl (val 4294967296 (a.take i)) (4294967296 ^ i) (A : Int) ((2 ^ s : Nat) : Int) (t : Int) (u : Int) (by rw [← Int.natCast_mul, ← e3]; omega)
   rw [← h, Int.natCast_add]
   have g : ∀ (V P c t u : Int), V + P * (c + t - c) + P * 4294967296 * (u - 0) = V + (P * t + P * 4294967296 * u) := by intros; grind
   exact g _ _ _ _ _
theorem nat_Shl_is {x s : Nat} (hx : (lim x).length ≤ 1000000000) (hs : s < 32) : nat_Shl_R (lim x) (s : Int) (lim (x * 2 ^ s)) 0 := by
 have hw0 : wi (Int.tdiv (s : Int) 32) = 0 := by
  rw [td (by omega), s64i (by omega) (by omega)]; omega
 refine nat_Shl_go ⟨0, nat_shift_go (.inr ⟨by omega, .inr ⟨by omega, rfl⟩⟩), .inl ⟨rfl, ?_⟩⟩
 by_cases h : x = 0
 ·subst h
  rw [Nat.zero_mul, lim_nil.2 rfl]
  exact .inl ⟨by simp, rfl, rfl⟩
 ·have h1 : ¬ ((lim x).length : Int) = 0 := by
   intro e
   have : (lim x).length = 0 := by omega
   exact h (lim_nil.1 (List.length_eq_zero_iff.1 this))
  have h2 : wi (wi (((lim x).length : Int) + 0) + 1) = (((lim x).length + 1 : Nat) : Int) := by
   rw [s64i (n := ((lim x).length : Int) + 0) (by omega) (by omega), s64i (by omega) (by omega)]; omega
  refine .inr ⟨h1, ?_⟩
  rw [hw0, h2, Int.toNat_natCast]
  refine ⟨by omega, by omega, _, rfl, ?_⟩
  refine nat_Shl_loop (lim_dig x) hx hs (lim_val x) (lim x).length 0 _ 0 (by omega) (by rw [List.length_replicate]) (Dig.zeros (by omega) _) (getD_zeros _ _) (Nat.two_pow_pos _) (fun j _ => getD_zeros _ _) ?_
  rw [val_zeros]; simp [val]
end Go.Proofs.YtjcdkemnflmfiaaGreatA
namespace Go.Proofs.YtjcdkemnflmfiaaGreatA
open Go
def cleaned (l : List Int) (n : Nat) : Nat := (val 4294967296 ((l.take n).map (· % 4294967296))).toNat
theorem cleaned_dig (l : List Int) : Dig 4294967296 (l.map (· % 4294967296)) := fun x hx => by
 obtain ⟨y, _, rfl⟩ := List.mem_map.1 hx
 omega
theorem ref_Clean_l4 : ∀ (n : Nat) (l : List Int), l.length ≤ 1000000000 → n ≤ l.length → Dig 4294967296 l → {x : Nat} → (hx : val 4294967296 (l.take n) = (x : Int)) → ref02_Clean_l4 n l (lim x) := by
 intro n
 induction n with
 | zero =>
  intro l hl hn hd x hx
  refine ref02_Clean_l4_go (.inr ⟨by simp, ?_⟩)
  have : (x : Int) = 0 := by rw [← hx]; rfl
  rw [show lim x = [] from lim_nil.2 (by omega)]; rfl
 | succ n ih =>
  intro l hl hn hd x hx
  have hw : wi (((n + 1 : Nat) : Int) - 1) = (n : Int) := w_pred (by omega)
  refine ref02_Clean_l4_go (.inl ⟨by omega, ?_⟩)
  rw [hw]
  refine ⟨by omega, by omega, ?_⟩
  rw [Int.toNat_natCast]
  by_cases h : l.getD n 0 = 0
  ·refine .inl ⟨h, by omega, ih l hl (by omega) hd ?_⟩
   have := val_take_succ 4294967296 l n (by omega)
   rw [h, Int.mul_zero, Int.add_zero] at this
   rw [← this, hx]
  ·refine .inr ⟨h, ?_⟩
   refine (eq_lim (hd.take _) (norm_take (by omega) h) hx).symm
theorem ref_Clean_l3 (l : List Int) (hl : l.length ≤ 1000000) (hd : Dig 4294967296 l) {x : Nat} (hx : val 4294967296 l = (x : Int)) : ref02_Clean_l3 l (lim x) := by
 rcases Nat.eq_zero_or_pos l.length with h0 | h0
 ·obtain rfl : l = [] := List.eq_nil_of_length_eq_zero h0
  refine ref02_Clean_l3_go (.inr ⟨by simp, ?_⟩)
  rw [val_nil] at hx
  exact lim_nil.2 (by omega)
 ·obtain ⟨n, hn⟩ : ∃ n, l.length = n + 1 := ⟨l.length - 1, by omega⟩
  have hw : wi ((l.length : Int) - 1) = (n : Int) := by rw [hn]; exact w_pred (by omega)
  refine ref02_Clean_l3_go (.inl ⟨by omega, ?_⟩)
  rw [hw]
  refine ⟨by omega, by omega, ?_⟩
  rw [Int.toNat_natCast]
  by_cases h : l.getD n 0 = 0
  ·refine .inl ⟨h, by omega, ref_Clean_l4 n l (by omega) (by omega) hd ?_⟩
   have := val_take_succ 4294967296 l n (by omega)
   rw [List.take_of_length_le (by omega), h, Int.mul_zero, Int.add_zero] at this
   rw [← this, hx]
  ·refine .inr ⟨h, ?_⟩
   have := take_digs (b := 4294967296) (by omega) hd (n := n) (by omega) (fun j hj => getD_ge (by omega)) h hx
   rw [List.take_of_length_le (by omega)] at this
   exact this.symm
theorem ref_Clean_l0 (l : List Int) (hw : ∀ x ∈ l, 0 ≤ x) (n : Nat) (hn : n ≤ 1000) (hs : l.length ≤ 9223372036854775807) (d : Nat) : ∀ i : Nat, i + d = min l.length n →
  (i = 0 → ref02_Clean_l0 l (n : Int) (i : Int) (lim (cleaned l n))) ∧ (0 < i → ref02_Clean_l1 l (n : Int) (i : Int) ((l.take i).map (· % 4294967296)) (lim (cleaned l n))) := by
 have cl : ∀ i : Nat, i = min l.length n → val 4294967296 ((l.take i).map (· % 4294967296)) = (cleaned l n : Int) := by
  intro i hi
  have e : l.take n = l.take i := by
   rcases Nat.le_total n l.length with h | h
   ·rw [hi, Nat.min_eq_right h]
   ·rw [hi, Nat.min_eq_left h, List.take_of_length_le h, List.take_of_length_le (Nat.le_refl _)]
  unfold cleaned
  rw [e, toNat_val (by omega) (cleaned_dig _)]
 have last3 : ∀ i : Nat, i = min l.length n → ref02_Clean_l3 ((l.take i).map (· % 4294967296)) (lim (cleaned l n)) := fun i hi =>
  ref_Clean_l3 _ (by rw [List.length_map, List.length_take]; omega) (cleaned_dig _) (cl i hi)
 have last2 : 0 = min l.length n → ref02_Clean_l2 (lim (cleaned l n)) := fun hi => by
  have := cl 0 hi
  refine ref02_Clean_l2_go (lim_nil.2 ?_)
  have h0 : val 4294967296 ((l.take 0).map (· % 4294967296)) = 0 := rfl
  omega
 induction d with
 | zero =>
  intro i hi
  refine ⟨fun h => ?_, fun h => ?_⟩
  ·subst h
   by_cases h : ((0 : Nat) : Int) < (l.length : Int)
   ·exact ref02_Clean_l0_go (.inl ⟨h, .inr ⟨by omega, last2 (by omega)⟩⟩)
   ·exact ref02_Clean_l0_go (.inr ⟨h, last2 (by omega)⟩)
  ·by_cases h : (i : Int) < (l.length : Int)
   ·exact ref02_Clean_l1_go (.inl ⟨h, .inr ⟨by omega, last3 i (by omega)⟩⟩)
   ·exact ref02_Clean_l1_go (.inr ⟨h, last3 i (by omega)⟩)
 | succ d ih =>
  intro i hi
  have hi1 : i + 1 < 9223372036854775808 := by omega
  have hil : i < l.length := by omega
  have h0 : 0 ≤ l.getD i 0 := by
   rw [List.getD_eq_getElem?_getD, List.getElem?_eq_getElem hil]
   exact hw _ (List.getElem_mem hil)
  have e : (l.take i).map (· % 4294967296) ++ [l.getD i 0 % 4294967296] = (l.take (i + 1)).map (· % 4294967296) := by
   rw [take_snoc_getD l i hil, List.map_append]; rfl
  have key := (ih (i + 1) (by omega)).2 (by omega)
  refine ⟨fun h => ?_, fun h => ?_⟩
  ·subst h
   refine ref02_Clean_l0_go (.inl ⟨by omega, .inl ⟨by omega, by omega, by omega, _, rfl, ?_⟩⟩)
   rw [w_succ hi1, Int.toNat_natCast, tm h0]
   rw [← e] at key
   exact key
  ·refine ref02_Clean_l1_go (.inl ⟨by omega, .inl ⟨by omega, by omega, by rw [List.length_map, List.length_take]; omega, _, rfl, ?_⟩⟩)
   rw [w_succ hi1, Int.toNat_natCast, tm h0, e]
   exact key
theorem ref_Clean_is {l : List Int} (hw : ∀ x ∈ l, 0 ≤ x) {n : Nat} (hn : n ≤ 1000) (hs : l.length ≤ 9223372036854775807) : ref02_Clean_R l (n : Int) (lim (cleaned l n)) :=
 ref02_Clean_go ((ref_Clean_l0 l hw n hn hs (min l.length n) 0 (by omega)).1 rfl)
theorem cleaned_len (l : List Int) (n : Nat) : (lim (cleaned l n)).length ≤ n := by
 refine lim_len.2 ?_
 have h := val_lt (b := 4294967296) (by omega) (cleaned_dig (l.take n))
 rw [List.length_map, List.length_take] at h
 have h2 : (4294967296 : Int) ^ (min n l.length) ≤ 4294967296 ^ n := powb_mono (by omega) (Nat.min_le_left _ _)
 have h3 := toNat_val (b := 4294967296) (by omega) (cleaned_dig (l.take n))
 unfold cleaned
 have h4 : ((val 4294967296 ((l.take n).map (· % 4294967296))).toNat : Int) < (4294967296 : Int) ^ n := by omega
 rw [← pow32] at h4
 omega
end Go.Proofs.YtjcdkemnflmfiaaGreatA
namespace Go.Proofs.YtjcdkemnflmfiaaGreatA
open Go
theorem shr_digit (A C R s : Nat) (hs : s < 32) : (A + 4294967296 * (C + 4294967296 * R)) / 2 ^ s % 4294967296 = (A + 4294967296 * C) / 2 ^ s % 4294967296 := by
 have h : (4294967296 : Nat) = 2 ^ s * 2 ^ (32 - s) := by
  rw [← Nat.pow_add, show s + (32 - s) = 32 by omega]
 have e : A + 4294967296 * (C + 4294967296 * R) = A + 4294967296 * C + 2 ^ s * (4294967296 * (2 ^ (32 - s) * R)) := by
  have : 4294967296 * (4294967296 * R) = 2 ^ s * (4294967296 * (2 ^ (32 - s) * R)) := by
   conv => lhs; rw [h]
   conv => rhs; rw [h]
   grind
  rw [← this]; omega
 rw [e, Nat.add_mul_div_left _ _ (Nat.two_pow_pos _), Nat.add_mul_mod_self_left]
theorem or_low {A C : Nat} (hA : A < 4294967296) (hC : C < 4294967296) : Go.bits .or .u64 (A : Int) ((C * 4294967296 : Nat) : Int) = ((A + 4294967296 * C : Nat) : Int) := by
 have h := Nat.two_pow_add_eq_or_of_lt (i := 32) (b := A) (by simpa using hA) C
 rw [(bits_nat .u64 64 (by decide) wraps_u64' A (C * 4294967296) (by simp; omega) (by simp; omega)).2, Nat.or_comm, Nat.mul_comm C]
 have e : (2 : Nat) ^ 32 = 4294967296 := by decide
 rw [e] at h
 rw [← h, Nat.add_comm]
theorem lim_getD (x i : Nat) : (lim x).getD i 0 = ((x / 4294967296 ^ i % 4294967296 : Nat) : Int) := by
 by_cases h : i < (lim x).length
 ·have h1 := (lim_take x i).2
  have h2 := (lim_take x (i + 1)).2
  have g := Dig.getD (by omega) (lim_dig x) i
  rw [val_drop _ _ _ h, h2] at h1
  obtain ⟨A, hA⟩ := Int.eq_ofNat_of_zero_le g.1
  rw [hA] at h1 g ⊢
  rw [Nat.pow_succ, ← Nat.div_div_eq_div_mul] at h1
  omega
 ·rw [getD_ge (by omega)]
  have : x < 4294967296 ^ i := Nat.lt_of_lt_of_le (lim_len.1 (Nat.le_refl _)) (Nat.pow_le_pow_right (by omega) (by omega))
  rw [Nat.div_eq_of_lt this]; rfl
theorem nat_Shr_loop {x s : Nat} (hs : s < 32) (hl : (lim x).length ≤ 1000000000) (d : Nat) : ∀ (i : Nat) (z : List Int),
  i + d = (lim x).length → z.length = (lim x).length → Dig 4294967296 z → val 4294967296 (z.take i) = ((x / 2 ^ s % 4294967296 ^ i : Nat) : Int) →
  nat_Shr_l0 (lim x) (s : Int) (z.length : Int) (i : Int) z (lim (x / 2 ^ s)) 0 := by
 induction d with
 | zero =>
  intro i z hi hz hdz hv
  have hx : x < 4294967296 ^ (lim x).length := lim_len.1 (Nat.le_refl _)
  have hx2 : x / 2 ^ s ≤ x := Nat.div_le_self _ _
  rw [List.take_of_length_le (by omega), Nat.mod_eq_of_lt (by rw [show i = (lim x).length by omega]; omega)] at hv
  exact nat_Shr_l0_go (.inr ⟨by omega, _, nat_trim_is hdz (by omega) hv, rfl, rfl⟩)
 | succ d ih =>
  intro i z hi hz hdz hv
  have hw0 : ∀ _ : Unit, wi (Int.tdiv (s : Int) 32) = 0 := fun _ => by
   rw [td (by omega), s64i (by omega) (by omega)]; omega
  have hm0 : ∀ _ : Unit, Int.tmod (s : Int) 32 = (s : Int) := fun _ => by rw [tm (by omega)]; omega
  have hi0 : ∀ _ : Unit, wi ((i : Int) + 0) = (i : Int) := fun _ => by rw [s64i (by omega) (by omega)]; omega
  have hat : ∀ _ : Unit, nat_at_R (lim x) (((i + 1 : Nat)) : Int) (((x / 4294967296 ^ (i + 1) % 4294967296 : Nat) : Int)) := fun _ => by rw [← lim_getD]; exact nat_at_is _ _
  have hA : x / 4294967296 ^ i % 4294967296 < 4294967296 := Nat.mod_lt _ (by omega)
  have hC : x / 4294967296 ^ (i + 1) % 4294967296 < 4294967296 := Nat.mod_lt _ (by omega)
  have hdig : ∀ _ : Unit, (x / 4294967296 ^ i % 4294967296 + 4294967296 * (x / 4294967296 ^ (i + 1) % 4294967296)) / 2 ^ s % 4294967296 = x / 2 ^ s / 4294967296 ^ i % 4294967296 := fun _ => by
   rw [← shr_digit _ _ (x / 4294967296 ^ (i + 1) / 4294967296) s hs, Nat.mod_add_div, Nat.pow_succ, ← Nat.div_div_eq_div_mul, Nat.mod_add_div, Nat.div_div_eq_div_mul, Nat.div_div_eq_div_mul, Nat.mul_comm]
  refine nat_Shr_l0_go (.inl ⟨by omega, by rw [hw0 (), hi0 ()]; omega, by rw [hw0 (), hi0 ()]; omega, (((x / 4294967296 ^ (i + 1) % 4294967296 : Nat) : Int)), by rw [hw0 (), hi0 (), w_succ (by omega)]; exact hat (), _, rfl, by rw [hm0 ()]; omega, by omega, by omega, _, rfl, ?_⟩)
  rw [hw0 (), hi0 (), hm0 (), w_succ (by omega), Int.toNat_natCast, Int.toNat_natCast, lim_getD, show (2 : Int) ^ 32 = 4294967296 from rfl]
  generalize x / 4294967296 ^ i % 4294967296 = A at *
  generalize x / 4294967296 ^ (i + 1) % 4294967296 = C at *
  have e1 : wu ((C : Int) * 4294967296) = ((C * 4294967296 : Nat) : Int) := by rw [w64i (by omega) (by omega)]; omega
  rw [e1, or_low hA hC, shr_nat' hs, tm (Int.natCast_nonneg _)]
  have e2 : (((A + 4294967296 * C) / 2 ^ s : Nat) : Int) % 4294967296 = ((x / 2 ^ s / 4294967296 ^ i % 4294967296 : Nat) : Int) := by
   rw [← hdig (), Int.natCast_emod]; rfl
  have hD : x / 2 ^ s / 4294967296 ^ i % 4294967296 < 4294967296 := Nat.mod_lt _ (by omega)
  obtain ⟨D, hDe⟩ : ∃ D, D = x / 2 ^ s / 4294967296 ^ i % 4294967296 := ⟨_, rfl⟩
  rw [← hDe] at e2 hD
  rw [e2]
  clear e1 e2
  have := ih (i + 1) (z.set i (D : Int)) (by omega) (by rw [List.length_set]; exact hz) (hdz.set (by omega) _) ?_
  ·rw [List.length_set] at this
   exact this
  ·rw [val_take_succ _ _ _ (by rw [List.length_set]; omega), getD_set_eq (by omega), List.take_set_of_le (by omega), hv, Nat.pow_succ, Nat.mod_mul, Int.natCast_add, Int.natCast_mul, pow32, hDe]
theorem nat_Shr_is {x s : Nat} (hs : s < 32) (hl : (lim x).length ≤ 1000000000) : nat_Shr_R (lim x) (s : Int) (lim (x / 2 ^ s)) 0 := by
 have hw0 : wi (Int.tdiv (s : Int) 32) = 0 := by
  rw [td (by omega), s64i (by omega) (by omega)]; omega
 refine nat_Shr_go ⟨0, nat_shift_go (.inr ⟨by omega, .inr ⟨by omega, rfl⟩⟩), .inl ⟨rfl, ?_⟩⟩
 rw [hw0]
 by_cases h : x = 0
 ·subst h
  rw [Nat.zero_div, lim_nil.2 rfl]
  exact .inl ⟨by simp, rfl, rfl⟩
 ·have h1 : (lim x).length ≠ 0 := fun e => h (lim_nil.1 (List.length_eq_zero_iff.1 e))
  have h2 : wi (((lim x).length : Int) - 0) = ((lim x).length : Int) := by rw [s64i (by omega) (by omega)]; omega
  refine .inr ⟨by omega, ?_⟩
  rw [h2, Int.toNat_natCast]
  refine ⟨by omega, by omega, _, rfl, ?_⟩
  refine nat_Shr_loop hs hl (lim x).length 0 _ (by omega) (by rw [List.length_replicate]) (Dig.zeros (by omega) _) ?_
  simp [val, Nat.mod_one]
end Go.Proofs.YtjcdkemnflmfiaaGreatA
namespace Go.Proofs.YtjcdkemnflmfiaaGreatA
open Go
theorem nat_Of_is {n : Nat} (h : n < 18446744073709551616) : nat_Of_R (n : Int) (lim n) := by
 refine nat_Of_go ⟨lim n, ?_, rfl⟩
 rw [tm (by omega), show (2 : Int) ^ 32 = 4294967296 from rfl]
 refine nat_trim_is (Dig.cons (by omega) (Dig.cons (by omega) (Dig.nil _))) (by simp) ?_
 rw [val_cons, val_cons, val_nil]; omega
end Go.Proofs.YtjcdkemnflmfiaaGreatA
namespace Go.Proofs.YtjcdkemnflmfiaaGreatA
open Go
theorem divide_at_is (l : List Int) (i : Nat) : divide_at_R l (i : Int) (l.getD i 0) := by
 by_cases h : (l.length : Int) ≤ (i : Int)
 ·exact divide_at_go (.inl ⟨h, getD_ge (by omega)⟩)
 ·exact divide_at_go (.inr ⟨h, by omega, by omega, rfl⟩)
theorem limb_Mul_nat {q A c : Nat} (hq : q < 4294967296) (hA : A < 4294967296) (hc : c < 4294967296) :
  limb_Mul_R (q : Int) (A : Int) (c : Int) 0 (((q * A + c) % 4294967296 : Nat) : Int) (((q * A + c) / 4294967296 : Nat) : Int) := by
 have := limb_Mul_is (a := (q : Int)) (b := (A : Int)) (c := (c : Int)) (d := 0) (by omega) (by omega) (by omega) (by omega)
 have e : (q : Int) % 4294967296 * ((A : Int) % 4294967296) + (c : Int) % 4294967296 + 0 % 4294967296 = ((q * A + c : Nat) : Int) := by
  rw [Int.emod_eq_of_lt (by omega) (by omega), Int.emod_eq_of_lt (by omega) (by omega), Int.emod_eq_of_lt (by omega) (by omega), Int.natCast_add, Int.natCast_mul]; rfl
 rw [e] at this
 rw [Int.natCast_emod, Int.natCast_ediv]
 exact this
theorem limb_Sub_nat {a b w : Nat} (ha : a < 4294967296) (hb : b < 4294967296) (hw : w ≤ 1) :
  ∃ x w' : Nat, limb_Sub_R (a : Int) (b : Int) (w : Int) (x : Int) (w' : Int) ∧ x < 4294967296 ∧ w' ≤ 1 ∧ (x : Int) = a - (b + w) + 4294967296 * w' := by
 by_cases h : a < b + w
 ·have := limb_Sub_lt (a := (a : Int)) (b := (b : Int)) (c := (w : Int)) (by omega) (by omega) (by omega) (by omega)
  refine ⟨a + 4294967296 - (b + w), 1, ?_, by omega, by omega, by omega⟩
  have e1 : ((b : Int) % 4294967296 + (w : Int) % 4294967296 - (a : Int) % 4294967296 + 4294967295) / 4294967296 = 1 := by omega
  rw [e1] at this
  have e2 : (a : Int) % 4294967296 + 1 * 4294967296 - ((b : Int) % 4294967296 + (w : Int) % 4294967296) = ((a + 4294967296 - (b + w) : Nat) : Int) := by omega
  rw [e2] at this
  exact this
 ·have := limb_Sub_ge (a := (a : Int)) (b := (b : Int)) (c := (w : Int)) (by omega) (by omega) (by omega) (by omega)
  refine ⟨a - (b + w), 0, ?_, by omega, by omega, by omega⟩
  have e2 : (a : Int) % 4294967296 - ((b : Int) % 4294967296 + (w : Int) % 4294967296) = ((a - (b + w) : Nat) : Int) := by omega
  rw [e2] at this
  exact this
theorem limb_Add_nat {a b c : Nat} (ha : a < 4294967296) (hb : b < 4294967296) (hc : c ≤ 1) :
  ∃ x c' : Nat, limb_Add_R (a : Int) (b : Int) (c : Int) (x : Int) (c' : Int) ∧ x < 4294967296 ∧ c' ≤ 1 ∧ a + b + c = x + 4294967296 * c' := by
 have := limb_Add_is (a := (a : Int)) (b := (b : Int)) (c := (c : Int)) (by omega) (by omega) (by omega)
 refine ⟨(a + b + c) % 4294967296, (a + b + c) / 4294967296, ?_, by omega, by omega, by omega⟩
 have e : (a : Int) % 4294967296 + (b : Int) % 4294967296 + (c : Int) % 4294967296 = ((a + b + c : Nat) : Int) := by omega
 rw [e] at this
 rw [Int.natCast_emod, Int.natCast_ediv]
 exact this
theorem alg_take (U Bi Bj q T c w u v p x c' w' : Int) (h1 : q * v + c = p + 4294967296 * c') (h2 : x = u - (p + w) + 4294967296 * w') :
  U - Bi * (q * T) + Bi * Bj * (c + w) + Bi * Bj * (x - u) = U - Bi * (q * (T + Bj * v)) + Bi * Bj * 4294967296 * (c' + w') := by
 subst h2
 have : p = q * v + c - 4294967296 * c' := by omega
 subst this
 grind
theorem alg_give (U Bi Bj T c u v x c' : Int) (h : u + v + c = x + 4294967296 * c') :
  U + Bi * T - Bi * Bj * c + Bi * Bj * (x - u) = U + Bi * (T + Bj * v) - Bi * Bj * 4294967296 * c' := by
 have : x = u + v + c - 4294967296 * c' := by omega
 subst this
 grind
theorem divide_take_loop {v : List Int} (hv : Dig 4294967296 v) {q : Nat} (hq : q < 4294967296) {i : Nat} {U : Int} (d : Nat) : ∀ (j : Nat) (u : List Int) (c w : Nat),
  j + d = v.length + 1 → Dig 4294967296 u → i + v.length + 1 ≤ u.length → u.length ≤ 1000000000 → c < 4294967296 → w ≤ 1 → (j = v.length + 1 → c = 0) →
  val 4294967296 u = U - 4294967296 ^ i * ((q : Int) * val 4294967296 (v.take j)) + 4294967296 ^ i * 4294967296 ^ j * ((c : Int) + (w : Int)) →
  ∃ (u' : List Int) (w' : Nat), (∀ (cb : Nat → Blk) (ver : Nat), divide_take_l0 cb ver (i : Int) v (q : Int) (c : Int) (w : Int) (((v.length + 1 : Nat)) : Int) (j : Int) u (decide (0 < (w' : Int))) u') ∧ Dig 4294967296 u' ∧ u'.length = u.length ∧ w' ≤ 1 ∧
   (∀ t, i + v.length + 1 ≤ t → u'.getD t 0 = u.getD t 0) ∧ val 4294967296 u' = U - 4294967296 ^ i * ((q : Int) * val 4294967296 v) + 4294967296 ^ i * 4294967296 ^ (v.length + 1) * (w' : Int) := by
 induction d with
 | zero =>
  intro j u c w hj hd hl hs hc hw hc0 hval
  obtain rfl : j = v.length + 1 := by omega
  obtain rfl := hc0 rfl
  refine ⟨u, w, fun cb ver => divide_take_l0_go (.inr ⟨by omega, rfl, rfl⟩), hd, rfl, hw, fun _ _ => rfl, ?_⟩
  rw [hval, List.take_of_length_le (by omega)]
  simp
 | succ d ih =>
  intro j u c w hj hd hl hs hc hw hc0 hval
  have gv := Dig.getD (by omega) hv j
  obtain ⟨A, hA⟩ := Int.eq_ofNat_of_zero_le gv.1
  have gu := Dig.getD (by omega) hd (i + j)
  obtain ⟨a, ha⟩ := Int.eq_ofNat_of_zero_le gu.1
  rw [hA] at gv
  rw [ha] at gu
  have hqa : q * A + c < 4294967296 * 4294967296 := by
   have : q * A ≤ 4294967295 * 4294967295 := Nat.mul_le_mul (by omega) (by omega)
   omega
  have hp : (q * A + c) % 4294967296 < 4294967296 := Nat.mod_lt _ (by omega)
  have hc' : (q * A + c) / 4294967296 < 4294967296 := Nat.div_lt_of_lt_mul hqa
  have hpc := Nat.mod_add_div (q * A + c) 4294967296
  have hmul := limb_Mul_nat hq (show A < 4294967296 by omega) hc
  have hlast : j = v.length → (q * A + c) / 4294967296 = 0 := by
   intro h
   have : A = 0 := by
    have h2 : v.getD j 0 = 0 := getD_ge (by omega)
    omega
   subst this
   rw [Nat.mul_zero, Nat.zero_add]
   exact Nat.div_eq_of_lt hc
  generalize (q * A + c) % 4294967296 = p at *
  generalize (q * A + c) / 4294967296 = c' at *
  obtain ⟨x, w', hsub, hx, hw', hxe⟩ := limb_Sub_nat (show a < 4294967296 by omega) hp hw
  obtain ⟨u', w'', e, g1, g2, g3, g4, g5⟩ := ih (j + 1) (u.set (i + j) (x : Int)) c' w' (by omega) (hd.set (by omega) _) (by rw [List.length_set]; exact hl) (by rw [List.length_set]; exact hs) hc' hw' (fun h => hlast (by omega)) (by
   rw [val_set _ _ _ _ (by omega), ha, hval, val_take_succ', hA, Int.pow_succ, Int.pow_add]
   have h1 : (q : Int) * (A : Int) + (c : Int) = (p : Int) + 4294967296 * (c' : Int) := by
    rw [← Int.natCast_mul, ← Int.natCast_add, ← hpc]; omega
   have := alg_take U (4294967296 ^ i) (4294967296 ^ j) (q : Int) (val 4294967296 (v.take j)) (c : Int) (w : Int) (a : Int) (A : Int) (p : Int) (x : Int) (c' : Int) (w' : Int) h1 hxe
   rw [this, Int.mul_assoc (4294967296 ^ i)])
  refine ⟨u', w'', ?_, g1, by rw [g2, List.length_set], g3, fun t ht => ?_, g5⟩
  ·intro cb ver
   have hat := divide_at_is v j
   rw [hA] at hat
   refine divide_take_l0_go (.inl ⟨by omega, _, hat, _, _, hmul, by rw [w_add (by omega)]; omega, by rw [w_add (by omega)]; omega, (x : Int), (w' : Int), by rw [w_add (by omega), Int.toNat_natCast, ha]; exact hsub, _, rfl, ?_⟩)
   rw [w_add (by omega), w_succ (by omega), Int.toNat_natCast]
   exact e cb ver
  ·rw [g4 t ht, getD_set_ne (by omega)]
theorem divide_give_loop {v : List Int} (hv : Dig 4294967296 v) {i : Nat} {U : Int} (d : Nat) : ∀ (j : Nat) (u : List Int) (c : Nat),
  j + d = v.length + 1 → Dig 4294967296 u → i + v.length + 1 ≤ u.length → u.length ≤ 1000000000 → c ≤ 1 →
  val 4294967296 u = U + 4294967296 ^ i * val 4294967296 (v.take j) - 4294967296 ^ i * 4294967296 ^ j * (c : Int) →
  ∃ (u' : List Int) (c' : Nat), (∀ (cb : Nat → Blk) (ver : Nat), divide_give_l0 cb ver (i : Int) v (c : Int) (((v.length + 1 : Nat)) : Int) (j : Int) u u') ∧ Dig 4294967296 u' ∧ u'.length = u.length ∧ c' ≤ 1 ∧
   (∀ t, i + v.length + 1 ≤ t → u'.getD t 0 = u.getD t 0) ∧ val 4294967296 u' = U + 4294967296 ^ i * val 4294967296 v - 4294967296 ^ i * 4294967296 ^ (v.length + 1) * (c' : Int) := by
 induction d with
 | zero =>
  intro j u c hj hd hl hs hc hval
  obtain rfl : j = v.length + 1 := by omega
  refine ⟨u, c, fun cb ver => divide_give_l0_go (.inr ⟨by omega, rfl⟩), hd, rfl, hc, fun _ _ => rfl, ?_⟩
  rw [hval, List.take_of_length_le (by omega)]
 | succ d ih =>
  intro j u c hj hd hl hs hc hval
  have gv := Dig.getD (by omega) hv j
  obtain ⟨A, hA⟩ := Int.eq_ofNat_of_zero_le gv.1
  have gu := Dig.getD (by omega) hd (i + j)
  obtain ⟨a, ha⟩ := Int.eq_ofNat_of_zero_le gu.1
  rw [hA] at gv
  rw [ha] at gu
  obtain ⟨x, c', hadd, hx, hc', hxe⟩ := limb_Add_nat (show a < 4294967296 by omega) (show A < 4294967296 by omega) hc
  obtain ⟨u', c'', e, g1, g2, g3, g4, g5⟩ := ih (j + 1) (u.set (i + j) (x : Int)) c' (by omega) (hd.set (by omega) _) (by rw [List.length_set]; exact hl) (by rw [List.length_set]; exact hs) hc' (by
   rw [val_set _ _ _ _ (by omega), ha, hval, val_take_succ', hA, Int.pow_succ, Int.pow_add]
   have := alg_give U (4294967296 ^ i) (4294967296 ^ j) (val 4294967296 (v.take j)) (c : Int) (a : Int) (A : Int) (x : Int) (c' : Int) (by omega)
   rw [this, Int.mul_assoc (4294967296 ^ i)])
  refine ⟨u', c'', ?_, g1, by rw [g2, List.length_set], g3, fun t ht => ?_, g5⟩
  ·intro cb ver
   have hat := divide_at_is v j
   rw [hA] at hat
   refine divide_give_l0_go (.inl ⟨by omega, by rw [w_add (by omega)]; omega, by rw [w_add (by omega)]; omega, _, hat, (x : Int), (c' : Int), by rw [w_add (by omega), Int.toNat_natCast, ha]; exact hadd, _, rfl, ?_⟩)
   rw [w_add (by omega), w_succ (by omega), Int.toNat_natCast]
   exact e cb ver
  ·rw [g4 t ht, getD_set_ne (by omega)]
end Go.Proofs.YtjcdkemnflmfiaaGreatA
namespace Go.Proofs.YtjcdkemnflmfiaaGreatA
open Go
theorem ref_Cmp_loop {a b : List Int} (ha : Dig 10000 a) (hb : Dig 10000 b) (hl : a.length = b.length) (hs : a.length ≤ 1000000000000) : ∀ i : Nat, i ≤ a.length → val 10000 (a.drop i) = val 10000 (b.drop i) →
  ref02_Cmp_l0 a b ((i : Int) - 1) (if val 10000 a < val 10000 b then -1 else if val 10000 b < val 10000 a then 1 else 0) := by
 intro i
 induction i with
 | zero =>
  intro hi he
  have he : val 10000 a = val 10000 b := he
  rw [if_neg (by omega), if_neg (by omega)]
  exact ref02_Cmp_l0_go (.inr ⟨by omega, rfl⟩)
 | succ i ih =>
  intro hi he
  have hw : ((i + 1 : Nat) : Int) - 1 = (i : Int) := by omega
  rw [hw]
  refine ref02_Cmp_l0_go (.inl ⟨by omega, by omega, by omega, ?_⟩)
  rw [Int.toNat_natCast]
  by_cases h1 : a.getD i 0 < b.getD i 0
  ·rw [if_pos (val_lt_of_top (by omega) ha hb hl i (by omega) he h1)]
   exact .inl ⟨h1, rfl⟩
  ·by_cases h2 : b.getD i 0 < a.getD i 0
   ·have := val_lt_of_top (by omega) hb ha hl.symm i (by omega) he.symm h2
    rw [if_neg (by omega), if_pos this]
    exact .inr ⟨h1, .inl ⟨h2, rfl⟩⟩
   ·refine .inr ⟨h1, .inr ⟨h2, ?_⟩⟩
    rw [s64i (by omega) (by omega)]
    refine ih (by omega) ?_
    rw [val_drop _ a i (by omega), val_drop _ b i (by omega), he]
    omega
theorem ref_Cmp_is {x y : Nat} (hx : (ten x).length ≤ 1000000000000) (hy : (ten y).length ≤ 1000000000000) : ref02_Cmp_R (ten x) (ten y) (if x < y then -1 else if y < x then 1 else 0) := by
 have mono : ∀ {x y : Nat}, (ten x).length < (ten y).length → x < y := by
  intro x y h
  rcases Nat.lt_or_ge x y with h1 | h1
  ·exact h1
  ·have := digs_len_mono (b := 10000) (by omega) h1
   have h2 : (ten y).length ≤ (ten x).length := this
   omega
 refine ref02_Cmp_go ?_
 by_cases h : ((ten x).length : Int) = ((ten y).length : Int)
 ·refine .inl ⟨h, ?_⟩
  rw [s64i (by omega) (by omega)]
  have := ref_Cmp_loop (ten_dig x) (ten_dig y) (by omega) hx (ten x).length (Nat.le_refl _) (by rw [List.drop_eq_nil_of_le (Nat.le_refl _), List.drop_eq_nil_of_le (by omega)])
  rw [ten_val, ten_val] at this
  simp only [Int.ofNat_lt] at this
  exact this
 ·by_cases h1 : ((ten x).length : Int) < ((ten y).length : Int)
  ·refine .inr ⟨h, .inl ⟨h1, ?_⟩⟩
   rw [if_pos (mono (by omega))]
  ·have := mono (x := y) (y := x) (by omega)
   rw [if_neg (by omega), if_pos this]
   exact .inr ⟨h, .inr ⟨h1, rfl⟩⟩
theorem alg_rsub (vo P c c' u A B VA VB : Int) (e : u + B + c = A + 10000 * c') (hv : vo + VB = VA + P * c) : vo + P * u + (VB + P * B) = VA + P * A + P * 10000 * c' := by grind
theorem ref_Sub_loop {a b : List Int} (ha : Dig 10000 a) (hb : Dig 10000 b) (hsa : a.length ≤ 100000000000) (hsb : b.length ≤ a.length) {x : Nat} (hx : val 10000 a - val 10000 b = (x : Int)) (d : Nat) : ∀ (i : Nat) (o : List Int) (c : Int),
  i + d = a.length → o.length = i → Dig 10000 o → 0 ≤ c → c ≤ 1 → val 10000 o + val 10000 (b.take i) = val 10000 (a.take i) + 10000 ^ i * c →
  (o = [] → ref02_Sub_l0 a b c (i : Int) (ten x)) ∧ (o ≠ [] → ref02_Sub_l1 a b c (i : Int) o (ten x)) := by
 induction d with
 | zero =>
  intro i o c hi ho hdg hc0 hc hv
  rw [List.take_of_length_le (by omega), List.take_of_length_le (by omega)] at hv
  have hlt := val_lt (by omega) hdg
  rw [ho] at hlt
  have hc1 : c = 0 := by
   rcases (show c = 0 ∨ c = 1 by omega) with h | h
   ·exact h
   ·subst h; omega
  subst hc1
  refine ⟨fun h => ?_, fun h => ?_⟩
  ·subst h
   exact ref02_Sub_l0_go (.inr ⟨by omega, _, ref_Trim_is (Dig.nil _) (by simp) (by omega), rfl⟩)
  ·exact ref02_Sub_l1_go (.inr ⟨by omega, _, ref_Trim_is hdg (by omega) (by omega), rfl⟩)
 | succ d ih =>
  intro i o c hi ho hdg hc0 hc hv
  have hi1 : i + 1 < 9223372036854775808 := by omega
  have ga := Dig.getD (by omega) ha i
  have gb := Dig.getD (by omega) hb i
  obtain ⟨s, hs⟩ : ∃ s, s = a.getD i 0 - c - b.getD i 0 := ⟨_, rfl⟩
  have key : ∀ c' : Int, 0 ≤ c' → c' ≤ 1 → 0 ≤ s + 10000 * c' → s + 10000 * c' < 10000 → ref02_Sub_l1 a b c' ((i + 1 : Nat) : Int) (o ++ [s + 10000 * c']) (ten x) := fun c' h0 h1 h2 h3 =>
   (ih (i + 1) (o ++ [s + 10000 * c']) c' (by omega) (by rw [List.length_append]; simp; omega) (hdg.append (Dig.cons ⟨h2, h3⟩ (Dig.nil _))) h0 h1 (by
    rw [val_snoc, ho, val_take_succ', val_take_succ', Int.pow_succ]
    exact alg_rsub _ _ _ _ _ _ _ _ _ (by omega) hv)).2 (by simp)
  have hb0 : ¬ i < b.length → b.getD i 0 = 0 := fun h => getD_ge (by omega)
  have hw := w_succ hi1
  have e1 : wi (a.getD i 0 - c) = a.getD i 0 - c := s64i (by omega) (by omega)
  have e2 : wi s = s := s64i (by omega) (by omega)
  have e3 : wi (s + 10000) = s + 10000 * 1 := by rw [s64i (by omega) (by omega)]; omega
  have e4 : s = s + 10000 * 0 := by omega
  refine ⟨fun h => ?_, fun h => ?_⟩
  ·rw [h] at key
   refine ref02_Sub_l0_go (.inl ⟨by omega, by omega, ?_⟩)
   rw [Int.toNat_natCast, hw, e1, ← hs]
   by_cases hB : i < b.length
   ·refine .inl ⟨by omega, ?_⟩
    rw [e2, e3]
    by_cases hn : s < 0
    ·exact .inl ⟨hn, _, rfl, by omega, _, rfl, key 1 (by omega) (by omega) (by omega) (by omega)⟩
    ·refine .inr ⟨hn, by omega, _, rfl, ?_⟩
     have := key 0 (by omega) (by omega) (by omega) (by omega)
     rw [← e4] at this
     exact this
   ·refine .inr ⟨by omega, ?_⟩
    rw [show a.getD i 0 - c = s by have := hb0 hB; omega, e3]
    by_cases hn : s < 0
    ·exact .inl ⟨hn, by omega, _, rfl, key 1 (by omega) (by omega) (by omega) (by omega)⟩
    ·refine .inr ⟨hn, by omega, _, rfl, ?_⟩
     have := key 0 (by omega) (by omega) (by omega) (by omega)
     rw [← e4] at this
     exact this
  ·refine ref02_Sub_l1_go (.inl ⟨by omega, by omega, ?_⟩)
   rw [Int.toNat_natCast, hw, e1, ← hs]
   by_cases hB : i < b.length
   ·refine .inl ⟨by omega, ?_⟩
    rw [e2, e3]
    by_cases hn : s < 0
    ·exact .inl ⟨hn, _, rfl, by omega, _, rfl, key 1 (by omega) (by omega) (by omega) (by omega)⟩
    ·refine .inr ⟨hn, by omega, _, rfl, ?_⟩
     have := key 0 (by omega) (by omega) (by omega) (by omega)
     rw [← e4] at this
     exact this
   ·refine .inr ⟨by omega, ?_⟩
    rw [show a.getD i 0 - c = s by have := hb0 hB; omega, e3]
    by_cases hn : s < 0
    ·exact .inl ⟨hn, by omega, _, rfl, key 1 (by omega) (by omega) (by omega) (by omega)⟩
    ·refine .inr ⟨hn, by omega, _, rfl, ?_⟩
     have := key 0 (by omega) (by omega) (by omega) (by omega)
     rw [← e4] at this
     exact this
theorem ten_len_mono {x y : Nat} (h : x ≤ y) : (ten x).length ≤ (ten y).length := digs_len_mono (by omega) h
theorem ref_Sub_is {x y : Nat} (hx : (ten x).length ≤ 100000000000) (h : y ≤ x) : ref02_Sub_R (ten x) (ten y) (ten (x - y)) := by
 refine ref02_Sub_go ((ref_Sub_loop (ten_dig x) (ten_dig y) hx (ten_len_mono h) (by rw [ten_val, ten_val]; omega) (ten x).length 0 [] 0 (by omega) rfl (Dig.nil _) (by omega) (by omega) (by simp [val])).1 rfl)
theorem ref_Div_bis {a q z0 z1 : List Int} {y R i : Nat} (hy : (ten y).length ≤ 100000000) (hR : (ten R).length ≤ 1000000000) (hi : i < q.length) (hq : q.length ≤ 1000000000)
  (K : ∀ lo : Nat, lo < 10000 → lo * y ≤ R → R < (lo + 1) * y → ref02_Div_l2 a (ten y) (ten (R - lo * y)) ((i : Int) - 1) (q.set i (lo : Int)) z0 z1) : ∀ (d lo hi : Nat), hi - lo ≤ d → lo < hi → hi ≤ 10000 → lo * y ≤ R → R < hi * y →
  ref02_Div_l1 a (ten y) (ten R) (i : Int) (lo : Int) (hi : Int) q z0 z1 := by
 intro d
 induction d with
 | zero => intro lo hi h1 h2; omega
 | succ d ih =>
  intro lo hi h1 h2 h3 h4 h5
  have e1 : wi ((hi : Int) - (lo : Int)) = ((hi - lo : Nat) : Int) := by rw [s64i (by omega) (by omega)]; omega
  by_cases h : hi = lo + 1
  ·subst h
   have hm : ref02_MulAdd_R (ten y) (lo : Int) 0 (ten (lo * y)) := by
    have := ref_MulAdd_is (x := y) (m := lo) (c := 0) (by omega) (by omega) (by omega)
    rwa [Nat.add_zero, Nat.mul_comm] at this
   refine ref02_Div_l1_go (.inr ⟨by rw [e1]; omega, by omega, by omega, _, rfl, _, hm, _, ref_Sub_is (by omega) h4, ?_⟩)
   rw [Int.toNat_natCast, s64i (by omega) (by omega)]
   exact K lo (by omega) h4 h5
  ·have e2 : wi ((wi ((lo : Int) + (hi : Int))).tdiv 2) = (((lo + hi) / 2 : Nat) : Int) := by
    rw [s64i (n := (lo : Int) + (hi : Int)) (by omega) (by omega), td (by omega), s64i (by omega) (by omega)]; omega
   obtain ⟨m, hm⟩ : ∃ m, m = (lo + hi) / 2 := ⟨_, rfl⟩
   have hml : ref02_MulAdd_R (ten y) (m : Int) 0 (ten (m * y)) := by
    have := ref_MulAdd_is (x := y) (m := m) (c := 0) (by omega) (by omega) (by omega)
    rwa [Nat.add_zero, Nat.mul_comm] at this
   have hsz : (ten (m * y)).length ≤ 1000000000000 := by
    have h1 : (ten y).length ≤ (ten y).length := Nat.le_refl _
    have h2 : m * y < 10000 ^ ((ten y).length + 1) := by
     rw [Nat.pow_succ, Nat.mul_comm m]
     exact Nat.mul_lt_mul'' (ten_len.1 h1) (by omega)
    exact Nat.le_trans (ten_len.2 h2) (by omega)
   refine ref02_Div_l1_go (.inl ⟨by rw [e1]; omega, ?_⟩)
   rw [e2, ← hm]
   refine ⟨_, hml, _, ref_Cmp_is hsz (by omega), ?_⟩
   by_cases hc : m * y ≤ R
   ·exact .inl ⟨by split <;> (try split) <;> omega, ih m hi (by omega) (by omega) (by omega) hc h5⟩
   ·exact .inr ⟨by rw [if_neg (by omega), if_pos (by omega)]; omega, ih lo m (by omega) (by omega) (by omega) h4 (by omega)⟩
theorem alg_rdiv (A Q y R lo R2 : Int) (h : A + 10000 * R = lo * y + R2) : A + 10000 * (Q * y + R) = (lo + 10000 * Q) * y + R2 := by grind
theorem ref_Div_next {a : List Int} (ha : Dig 10000 a) {x y : Nat} (hy : (ten y).length ≤ 100000000) (hy0 : 0 < y) (hs : a.length ≤ 100000000) (hx : val 10000 a = (x : Int)) {i R : Nat} {q : List Int} (hi : i + 1 ≤ a.length) (hql : q.length = a.length) (hqd : Dig 10000 q) (hR : R < y)
  (hv : val 10000 (a.drop (i + 1)) = val 10000 (q.drop (i + 1)) * (y : Int) + (R : Int))
  (ih : ∀ (R2 : Nat) (q2 : List Int), q2.length = a.length → Dig 10000 q2 → R2 < y → val 10000 (a.drop i) = val 10000 (q2.drop i) * (y : Int) + (R2 : Int) → ref02_Div_l2 a (ten y) (ten R2) ((i : Int) - 1) q2 (ten (x / y)) (ten (x % y)))
  {A : Nat} (hA : a.getD i 0 = (A : Int)) : ref02_Div_l1 a (ten y) (ten (A + 10000 * R)) (i : Int) 0 10000 q (ten (x / y)) (ten (x % y)) := by
 have ga := Dig.getD (by omega) ha i
 rw [hA] at ga
 have hsz : (ten (A + 10000 * R)).length ≤ 1000000000 := by
  have h2 : A + 10000 * R < 10000 ^ ((ten y).length + 1) := by
   rw [Nat.pow_succ]
   have := ten_len.1 (Nat.le_refl (ten y).length)
   omega
  exact Nat.le_trans (ten_len.2 h2) (by omega)
 refine ref_Div_bis (i := i) hy hsz (by omega) (by omega) (fun lo hlo h1 h2 => ?_) 10000 0 10000 (by omega) (by omega) (by omega) (by omega) (by omega)
 refine ih _ _ (by rw [List.length_set]; exact hql) (hqd.set (by omega) _) (by rw [Nat.add_mul] at h2; omega) ?_
 rw [val_drop _ a i (by omega), val_drop _ (q.set i _) i (by rw [List.length_set]; omega), getD_set_eq (by omega), List.drop_set_of_lt (by omega), hv, hA]
 refine alg_rdiv _ _ _ _ _ _ ?_
 rw [← Int.natCast_mul]
 omega
theorem ref_Div_loop {a : List Int} (ha : Dig 10000 a) {x y : Nat} (hy : (ten y).length ≤ 100000000) (hy0 : 0 < y) (hs : a.length ≤ 100000000) (hx : val 10000 a = (x : Int)) : ∀ (i R : Nat) (q : List Int),
  i ≤ a.length → q.length = a.length → Dig 10000 q → R < y → val 10000 (a.drop i) = val 10000 (q.drop i) * (y : Int) + (R : Int) →
  ref02_Div_l2 a (ten y) (ten R) ((i : Int) - 1) q (ten (x / y)) (ten (x % y)) := by
 intro i
 induction i with
 | zero =>
  intro R q hi hql hqd hR hv
  rw [List.drop_zero, List.drop_zero, hx] at hv
  have hu := divmod_unique (n := (x : Int)) (d := (y : Int)) (q := val 10000 q) (r := (R : Int)) hv.symm (by omega) (by omega)
  refine ref02_Div_l2_go (.inr ⟨by omega, _, ref_Trim_is hqd (by omega) (x := x / y) (by rw [← hu.1, Int.natCast_ediv]), rfl, ?_⟩)
  have : x % y = R := by
   have h := hu.2
   rw [← Int.natCast_emod] at h
   omega
  rw [this]
 | succ i ih =>
  intro R q hi hql hqd hR hv
  have hw : ((i + 1 : Nat) : Int) - 1 = (i : Int) := by omega
  rw [hw]
  have ga := Dig.getD (by omega) ha i
  obtain ⟨A, hA⟩ := Int.eq_ofNat_of_zero_le ga.1
  have hRl : (ten R).length ≤ 100000000 := Nat.le_trans (ten_len_mono (Nat.le_of_lt hR)) hy
  have trim : ref02_Trim_R ([a.getD (i : Int).toNat 0] ++ ten R) (ten (A + 10000 * R)) := by
   rw [Int.toNat_natCast]
   refine ref_Trim_is ((Dig.cons ga (Dig.nil _)).append (ten_dig R)) (by simp; omega) ?_
   rw [List.singleton_append, val_cons, ten_val, hA]; omega
  have next := ref_Div_next ha hy hy0 hs hx hi hql hqd hR hv (fun R2 q2 h1 h2 h3 h4 => ih R2 q2 (by omega) h1 h2 h3 h4) hA
  by_cases hn : ten R = []
  ·exact ref02_Div_l2_go (.inl ⟨by omega, by omega, .inl ⟨hn, ten (A + 10000 * R), by rw [hn, List.append_nil] at trim; exact trim, next⟩⟩)
  ·exact ref02_Div_l2_go (.inl ⟨by omega, by omega, .inr ⟨hn, by simp; omega, _, rfl, ten (A + 10000 * R), trim, next⟩⟩)
theorem ref_Div_is {x y : Nat} (hx : (ten x).length ≤ 100000000) (hyl : (ten y).length ≤ 100000000) (hy : 0 < y) : ref02_Div_R (ten x) (ten y) (ten (x / y)) (ten (x % y)) := by
 refine ref02_Div_go ⟨by omega, by omega, _, rfl, ?_⟩
 rw [s64i (by omega) (by omega), Int.toNat_natCast]
 have hz := Dig.zeros (b := 10000) (by omega) (ten x).length
 rcases Nat.eq_zero_or_pos (ten x).length with h0 | h0
 ·have hx0 : x = 0 := ten_nil.1 (List.length_eq_zero_iff.1 h0)
  subst hx0
  rw [Nat.zero_div, Nat.zero_mod]
  exact ref02_Div_l0_go (.inr ⟨by omega, _, ref_Trim_is hz (by rw [List.length_replicate]; omega) (by rw [val_zeros]; rfl), rfl, ten_nil.2 rfl⟩)
 ·obtain ⟨i, hi⟩ : ∃ i, (ten x).length = i + 1 := ⟨(ten x).length - 1, by omega⟩
  rw [show ((ten x).length : Int) - 1 = (i : Int) by omega]
  have ga := Dig.getD (by omega) (ten_dig x) i
  obtain ⟨A, hA⟩ := Int.eq_ofNat_of_zero_le ga.1
  have := ref_Div_next (ten_dig x) hyl hy hx (ten_val x) (i := i) (R := 0) (q := List.replicate (ten x).length 0) (by omega) (by rw [List.length_replicate]) hz hy (by rw [List.drop_of_length_le (by omega), List.drop_of_length_le (by rw [List.length_replicate]; omega)]; simp [val])
   (fun R2 q2 h1 h2 h3 h4 => ref_Div_loop (ten_dig x) hyl hy hx (ten_val x) i R2 q2 (by omega) h1 h2 h3 h4) hA
  refine ref02_Div_l0_go (.inl ⟨by omega, by omega, _, ?_, this⟩)
  rw [Int.toNat_natCast]
  refine ref_Trim_is (Dig.cons ga (Dig.nil _)) (by simp) ?_
  rw [val_cons, val_nil, hA]; omega
theorem ref_Gcd_loop : ∀ (y : Nat) (x : Nat), (ten x).length ≤ 100000000 → (ten y).length ≤ 100000000 → ref02_Gcd_l0 (ten x) (ten y) (ten (Nat.gcd x y)) := by
 intro y
 induction y using Nat.strongRecOn with
 | _ y ih =>
  intro x hx hy
  rcases Nat.eq_zero_or_pos y with rfl | h0
  ·rw [Nat.gcd_zero_right]
   exact ref02_Gcd_l0_go (.inr ⟨by rw [ten_nil.2 rfl]; simp, rfl⟩)
  ·refine ref02_Gcd_l0_go (.inl ⟨?_, _, _, ref_Div_is hx hy h0, ?_⟩)
   ·have : (ten y).length ≠ 0 := fun h => by have := ten_nil.1 (List.length_eq_zero_iff.1 h); omega
    omega
   ·have := ih (x % y) (Nat.mod_lt _ h0) y hy (Nat.le_trans (ten_len_mono (Nat.le_of_lt (Nat.mod_lt x h0))) hy)
    rw [Nat.gcd_comm x y, Nat.gcd_rec, Nat.gcd_comm]
    exact this
theorem ref_Gcd_is {x y : Nat} (hx : (ten x).length ≤ 100000000) (hy : (ten y).length ≤ 100000000) : ref02_Gcd_R (ten x) (ten y) (ten (Nat.gcd x y)) := ref02_Gcd_go (ref_Gcd_loop y x hx hy)
end Go.Proofs.YtjcdkemnflmfiaaGreatA
namespace Go.Proofs.YtjcdkemnflmfiaaGreatA
open Go
theorem guess_high {q V W T Vt P Vl Wl : Int} (hP : 0 < P) (hV : V = Vt * P + Vl) (hVl : 0 ≤ Vl) (hW : W = T * P + Wl) (hWl : Wl < P) (hq0 : 0 ≤ q) (h : T < q * Vt) : W < q * V := by
 have h1 : (T + 1) * P ≤ q * Vt * P := Int.mul_le_mul_of_nonneg_right (by omega) (Int.le_of_lt hP)
 have h2 : 0 ≤ q * Vl := Int.mul_nonneg hq0 hVl
 have e1 : (T + 1) * P = T * P + P := by grind
 have e2 : q * V = q * Vt * P + q * Vl := by rw [hV]; grind
 rw [e2, hW]; omega
theorem guess_low {q V W T Vt P Vl Wl : Int} (hP : 0 < P) (hV : V = Vt * P + Vl) (hVl : Vl < P) (hW : W = T * P + Wl) (hWl : 0 ≤ Wl) (hq0 : 1 ≤ q) (hq : q - 1 ≤ Vt) (h : q * Vt ≤ T) : (q - 1) * V ≤ W := by
 have h1 : (q - 1) * (Vt + 1) ≤ T := by
  have e : (q - 1) * (Vt + 1) = q * Vt - Vt + (q - 1) := by grind
  omega
 have h2 : (q - 1) * (Vt + 1) * P ≤ T * P := Int.mul_le_mul_of_nonneg_right h1 (Int.le_of_lt hP)
 have h3 : (q - 1) * V ≤ (q - 1) * ((Vt + 1) * P) := by
  refine Int.mul_le_mul_of_nonneg_left ?_ (by omega)
  have e : (Vt + 1) * P = Vt * P + P := by grind
  omega
 rw [← Int.mul_assoc] at h3
 omega
theorem test_is {q r v2 u3 : Nat} (hq : q < 4294967296) (hr : r < 4294967296) (hv2 : v2 < 4294967296) (hu3 : u3 < 4294967296) :
  Go.bits .or .u64 (wu ((r : Int) * 2 ^ 32)) (u3 : Int) < wu ((q : Int) * (v2 : Int)) ↔ r * 4294967296 + u3 < q * v2 := by
 have h1 : q * v2 ≤ 4294967295 * 4294967295 := Nat.mul_le_mul (by omega) (by omega)
 rw [show (2 : Int) ^ 32 = 4294967296 from rfl, ← Int.natCast_mul, w64i (n := ((q * v2 : Nat) : Int)) (by omega) (by omega), w64i (n := (r : Int) * 4294967296) (by omega) (by omega), or32 (by omega) (by omega) (by omega) (by omega) (by omega)]
 generalize q * v2 = z at *
 omega
def guessY (u v : List Int) (i n q r z : Int) : Prop := (0 ≤ (wi (n - 1)) ∧ ((wi (n - 1)) < (v.length : Int) ∧ ((4294967296 ≤ (wu (r + (v.getD (wi (n - 1)).toNat 0))) ∧ (z = (wu (q - 1)))) ∨ (¬ 4294967296 ≤ (wu (r + (v.getD (wi (n - 1)).toNat 0))) ∧ (divide_guess_l0 u i v n (wu (q - 1)) (wu (r + (v.getD (wi (n - 1)).toNat 0))) z)))))
theorem guess_step_T {q v1 r u3 num : Nat} (hnum : q * v1 + r = num) : num * 4294967296 + u3 = q * (v1 * 4294967296) + (r * 4294967296 + u3) := by
 subst hnum; grind
theorem divide_guess_loop {u v : List Int} {i : Nat} (hn : 2 ≤ v.length) (hi : i + v.length < u.length) (hs : u.length ≤ 1000000000) {v1 v2 u3 num : Nat}
  (h1 : v.getD (v.length - 1) 0 = (v1 : Int)) (h2 : v.getD (v.length - 2) 0 = (v2 : Int)) (h3 : u.getD (i + v.length - 2) 0 = (u3 : Int)) (hb : 2147483648 ≤ v1) (hv1 : v1 < 4294967296) (hv2 : v2 < 4294967296) (hu3 : u3 < 4294967296)
  {V W P Vl Wl : Int} (hP : 0 < P) (hV : V = ((v1 * 4294967296 + v2 : Nat) : Int) * P + Vl) (hVl : 0 ≤ Vl) (hVl' : Vl < P) (hW : W = ((num * 4294967296 + u3 : Nat) : Int) * P + Wl) (hWl : 0 ≤ Wl) (hWl' : Wl < P) (hWV : W < 4294967296 * V)
  (hnum : num < v1 * 4294967296 + 4294967296) (hV0 : 0 ≤ V) : ∀ (d q r : Nat), 4294967296 ≤ r + d * 2147483648 → r < 4294967296 → q * v1 + r = num → q ≤ 4294967297 → W < ((q : Int) + 1) * V →
  ∃ q' : Nat, divide_guess_l0 u (i : Int) v (v.length : Int) (q : Int) (r : Int) (q' : Int) ∧ q' < 4294967296 ∧ ((q' : Int) - 1) * V ≤ W ∧ W < ((q' : Int) + 1) * V := by
 have low : ∀ q r : Nat, q * v1 + r = num → q < 4294967296 → q * v2 ≤ r * 4294967296 + u3 → ((q : Int) - 1) * V ≤ W := by
  intro q r hq hqB ht
  by_cases hq0 : q = 0
  ·subst hq0
   have : 0 ≤ ((num * 4294967296 + u3 : Nat) : Int) * P := Int.mul_nonneg (by omega) (Int.le_of_lt hP)
   rw [hW]
   have e : (((0 : Nat) : Int) - 1) * V = - V := by simp
   rw [e]; omega
  ·refine guess_low hP hV hVl' hW hWl (by omega) (by omega) ?_
   rw [← Int.natCast_mul]
   refine Int.ofNat_le.2 ?_
   rw [guess_step_T hq, Nat.mul_add]
   omega
 have high : ∀ q r : Nat, q * v1 + r = num → r < 4294967296 → q ≤ 4294967297 → (4294967296 ≤ q ∨ r * 4294967296 + u3 < q * v2) → 1 ≤ q ∧ W < (q : Int) * V := by
  intro q r hq hr hqB ht
  have hq1 : 1 ≤ q := by
   rcases ht with ht | ht
   ·omega
   ·by_cases h0 : q = 0
    ·subst h0; simp at ht
    ·omega
  refine ⟨hq1, ?_⟩
  rcases ht with ht | ht
  ·have : (4294967296 : Int) * V ≤ (q : Int) * V := Int.mul_le_mul_of_nonneg_right (by omega) hV0
   omega
  ·refine guess_high hP hV hVl hW hWl' (by omega) ?_
   rw [← Int.natCast_mul]
   refine Int.ofNat_lt.2 ?_
   rw [guess_step_T hq, Nat.mul_add]
   omega
 have small : ∀ q r : Nat, q * v1 + r = num → 4294967296 ≤ r → q < 4294967296 := by
  intro q r hq hr
  refine Nat.lt_of_not_le (fun h => ?_)
  have : 4294967296 * v1 ≤ q * v1 := Nat.mul_le_mul_right _ h
  omega
 intro d
 induction d with
 | zero => intro q r hd hr; omega
 | succ d ih =>
  intro q r hd hr hq hqB hWq
  have w1 : ∀ _ : Unit, wi ((v.length : Int) - 1) = ((v.length - 1 : Nat) : Int) := fun _ => by rw [s64i (by omega) (by omega)]; omega
  have w2 : ∀ _ : Unit, wi ((v.length : Int) - 2) = ((v.length - 2 : Nat) : Int) := fun _ => by rw [s64i (by omega) (by omega)]; omega
  have w3 : ∀ _ : Unit, wi (wi ((i : Int) + (v.length : Int)) - 2) = ((i + v.length - 2 : Nat) : Int) := fun _ => by rw [w_add (by omega), s64i (by omega) (by omega)]; omega
  have yes : (4294967296 ≤ q ∨ r * 4294967296 + u3 < q * v2) → ∃ q' : Nat, guessY u v (i : Int) (v.length : Int) (q : Int) (r : Int) (q' : Int) ∧ q' < 4294967296 ∧ ((q' : Int) - 1) * V ≤ W ∧ W < ((q' : Int) + 1) * V := by
   intro ht
   obtain ⟨hq1, hlt⟩ := high q r hq hr hqB ht
   have hq' : (q - 1) * v1 + (r + v1) = num := by
    obtain ⟨m, rfl⟩ : ∃ m, q = m + 1 := ⟨q - 1, by omega⟩
    rw [← hq, Nat.add_sub_cancel, Nat.add_mul, Nat.one_mul]; omega
   have hlt' : W < (((q - 1 : Nat) : Int) + 1) * V := by
    have e : ((q - 1 : Nat) : Int) + 1 = (q : Int) := by omega
    rw [e]; exact hlt
   have wr : wu ((r : Int) + (v1 : Int)) = ((r + v1 : Nat) : Int) := by rw [w64i (by omega) (by omega)]; omega
   have wq : wu ((q : Int) - 1) = ((q - 1 : Nat) : Int) := by rw [w64i (by omega) (by omega)]; omega
   by_cases hr2 : 4294967296 ≤ r + v1
   ·have hs1 := small (q - 1) (r + v1) hq' hr2
    refine ⟨q - 1, ⟨by rw [w1 ()]; omega, by rw [w1 ()]; omega, .inl ⟨by rw [w1 (), Int.toNat_natCast, h1, wr]; omega, wq.symm⟩⟩, hs1, low (q - 1) (r + v1) hq' hs1 ?_, hlt'⟩
    have : (q - 1) * v2 ≤ 4294967296 * 4294967296 := Nat.mul_le_mul (by omega) (by omega)
    have : 4294967296 * 4294967296 ≤ (r + v1) * 4294967296 := Nat.mul_le_mul_right _ hr2
    omega
   ·obtain ⟨q', e, g⟩ := ih (q - 1) (r + v1) (by omega) (by omega) hq' (by omega) hlt'
    refine ⟨q', ⟨by rw [w1 ()]; omega, by rw [w1 ()]; omega, .inr ⟨by rw [w1 (), Int.toNat_natCast, h1, wr]; omega, ?_⟩⟩, g⟩
    rw [wq, w1 (), Int.toNat_natCast, h1, wr]
    exact e
  by_cases hqb : 4294967296 ≤ q
  ·obtain ⟨q', e, g⟩ := yes (.inl hqb)
   exact ⟨q', divide_guess_l0_go (.inl ⟨by omega, e⟩), g⟩
  ·have ht := test_is (q := q) (r := r) (v2 := v2) (u3 := u3) (by omega) hr hv2 hu3
   by_cases ht2 : r * 4294967296 + u3 < q * v2
   ·obtain ⟨q', e, g⟩ := yes (.inr ht2)
    exact ⟨q', divide_guess_l0_go (.inr ⟨by omega, by rw [w2 ()]; omega, by rw [w2 ()]; omega, by rw [w3 ()]; omega, by rw [w3 ()]; omega, _, rfl, .inl ⟨by rw [w2 (), w3 (), Int.toNat_natCast, Int.toNat_natCast, h2, h3]; exact ht.2 ht2, e⟩⟩), g⟩
   ·exact ⟨q, divide_guess_l0_go (.inr ⟨by omega, by rw [w2 ()]; omega, by rw [w2 ()]; omega, by rw [w3 ()]; omega, by rw [w3 ()]; omega, _, rfl, .inr ⟨by rw [w2 (), w3 (), Int.toNat_natCast, Int.toNat_natCast, h2, h3]; exact fun h => ht2 (ht.1 h), rfl⟩⟩), by omega, low q r hq (by omega) (by omega), hWq⟩
theorem divide_guess_is {u v : List Int} (hu : Dig 4294967296 u) (hv : Dig 4294967296 v) {i : Nat} (hn : 2 ≤ v.length) (hi : i + v.length < u.length) (hs : u.length ≤ 1000000000) (hb : 2147483648 ≤ v.getD (v.length - 1) 0)
  (hz : ∀ t, i + v.length + 1 ≤ t → u.getD t 0 = 0) (hWV : val 4294967296 (u.drop i) < 4294967296 * val 4294967296 v) :
  ∃ q : Nat, divide_guess_R u (i : Int) v (q : Int) ∧ q < 4294967296 ∧ ((q : Int) - 1) * val 4294967296 v ≤ val 4294967296 (u.drop i) ∧ val 4294967296 (u.drop i) < ((q : Int) + 1) * val 4294967296 v := by
 obtain ⟨v1, h1⟩ := Int.eq_ofNat_of_zero_le (Dig.getD (by omega) hv (v.length - 1)).1
 obtain ⟨v2, h2⟩ := Int.eq_ofNat_of_zero_le (Dig.getD (by omega) hv (v.length - 2)).1
 obtain ⟨u3, h3⟩ := Int.eq_ofNat_of_zero_le (Dig.getD (by omega) hu (i + v.length - 2)).1
 obtain ⟨ua, ha⟩ := Int.eq_ofNat_of_zero_le (Dig.getD (by omega) hu (i + v.length - 1)).1
 obtain ⟨ub, hub⟩ := Int.eq_ofNat_of_zero_le (Dig.getD (by omega) hu (i + v.length)).1
 have b1 := (Dig.getD (by omega) hv (v.length - 1)).2
 have b2 := (Dig.getD (by omega) hv (v.length - 2)).2
 have b3 := (Dig.getD (by omega) hu (i + v.length - 2)).2
 have ba := (Dig.getD (by omega) hu (i + v.length - 1)).2
 have bb := (Dig.getD (by omega) hu (i + v.length)).2
 rw [h1] at b1 hb
 rw [h2] at b2
 rw [h3] at b3
 rw [ha] at ba
 rw [hub] at bb
 have hP : (0 : Int) < 4294967296 ^ (v.length - 2) := Int.pow_pos (by omega)
 have hV : val 4294967296 v = ((v1 * 4294967296 + v2 : Nat) : Int) * 4294967296 ^ (v.length - 2) + val 4294967296 (v.take (v.length - 2)) := by
  rw [val_take_drop 4294967296 v (v.length - 2) (by omega), val_drop _ _ _ (by omega), h2, show v.length - 2 + 1 = v.length - 1 by omega, val_drop _ _ _ (by omega), h1, List.drop_of_length_le (by omega), val_nil, Int.natCast_add, Int.natCast_mul]
  grind
 have hW : val 4294967296 (u.drop i) = (((ub * 4294967296 + ua) * 4294967296 + u3 : Nat) : Int) * 4294967296 ^ (v.length - 2) + val 4294967296 ((u.drop i).take (v.length - 2)) := by
  rw [val_take_drop 4294967296 (u.drop i) (v.length - 2) (by rw [List.length_drop]; omega), List.drop_drop, show i + (v.length - 2) = i + v.length - 2 by omega, val_drop _ _ _ (by omega), h3, show i + v.length - 2 + 1 = i + v.length - 1 by omega, val_drop _ _ _ (by omega), ha,
   show i + v.length - 1 + 1 = i + v.length by omega, val_drop _ _ _ (by omega), hub, val_all_zeros 4294967296 (u.drop (i + v.length + 1)) (fun j => by have := hz (i + v.length + 1 + j) (by omega); simpa [List.getD_eq_getElem?_getD] using this), Int.natCast_add, Int.natCast_mul, Int.natCast_add, Int.natCast_mul]
  grind
 have d1 := val_nonneg (by omega) (hv.take (v.length - 2))
 have d2 := val_lt (by omega) (hv.take (v.length - 2))
 have d3 := val_nonneg (by omega) ((hu.drop i).take (v.length - 2))
 have d4 := val_lt (by omega) ((hu.drop i).take (v.length - 2))
 rw [List.length_take, Nat.min_eq_left (by omega)] at d2
 rw [List.length_take, List.length_drop, Nat.min_eq_left (by omega)] at d4
 have hV0 := val_nonneg (by omega) hv
 generalize hVt : v1 * 4294967296 + v2 = Vt at hV
 generalize hT : (ub * 4294967296 + ua) * 4294967296 + u3 = T at hW
 have hTV : (T : Int) < 4294967296 * ((Vt : Int) + 1) := by
  refine Int.lt_of_mul_lt_mul_right (a := 4294967296 ^ (v.length - 2)) ?_ (Int.le_of_lt hP)
  have e : 4294967296 * ((Vt : Int) + 1) * 4294967296 ^ (v.length - 2) = 4294967296 * ((Vt : Int) * 4294967296 ^ (v.length - 2)) + 4294967296 * 4294967296 ^ (v.length - 2) := by grind
  rw [e]; omega
 have hnum : ub * 4294967296 + ua < v1 * 4294967296 + 4294967296 := by omega
 have hv1 : 0 < v1 := by omega
 have hmd := Nat.mod_add_div (ub * 4294967296 + ua) v1
 have hml := Nat.mod_lt (ub * 4294967296 + ua) hv1
 have hq1 : (ub * 4294967296 + ua) / v1 ≤ 4294967297 := Nat.le_of_lt_succ ((Nat.div_lt_iff_lt_mul hv1).2 (by omega))
 obtain ⟨q0, hq0⟩ : ∃ q0, q0 = (ub * 4294967296 + ua) / v1 := ⟨_, rfl⟩
 obtain ⟨r0, hr0⟩ : ∃ r0, r0 = (ub * 4294967296 + ua) % v1 := ⟨_, rfl⟩
 rw [← hq0, ← hr0] at hmd
 rw [← hr0] at hml
 rw [← hq0] at hq1
 have hor : ∀ _ : Unit, Go.bits .or .u64 (wu ((ub : Int) * 4294967296)) (ua : Int) = ((ub * 4294967296 + ua : Nat) : Int) := fun _ => by
  rw [w64i (n := (ub : Int) * 4294967296) (by omega) (by omega), or32 (by omega) (by omega) (by omega) (by omega) (by omega)]; omega
 have w1 : ∀ _ : Unit, wi ((v.length : Int) - 1) = ((v.length - 1 : Nat) : Int) := fun _ => by rw [s64i (by omega) (by omega)]; omega
 have w3 : ∀ _ : Unit, wi (wi ((i : Int) + (v.length : Int)) - 1) = ((i + v.length - 1 : Nat) : Int) := fun _ => by rw [w_add (by omega), s64i (by omega) (by omega)]; omega
 have hwq : ∀ _ : Unit, wu (((ub * 4294967296 + ua : Nat) : Int) / (v1 : Int)) = (q0 : Int) := fun _ => by rw [← Int.natCast_ediv, ← hq0, w64i (by omega) (by omega)]
 have hwr : ∀ _ : Unit, ((ub * 4294967296 + ua : Nat) : Int) % (v1 : Int) = (r0 : Int) := fun _ => by rw [← Int.natCast_emod, ← hr0]
 have hhi : val 4294967296 (u.drop i) < ((q0 : Int) + 1) * val 4294967296 v := by
  refine guess_high hP hV d1 hW d4 (by omega) ?_
  have e : (q0 : Int) + 1 = ((q0 + 1 : Nat) : Int) := by omega
  rw [e, ← Int.natCast_mul]
  refine Int.ofNat_lt.2 ?_
  have h5 : ub * 4294967296 + ua + 1 ≤ (q0 + 1) * v1 := by
   rw [Nat.add_mul, Nat.one_mul, Nat.mul_comm _ v1]; omega
  have h6 : (ub * 4294967296 + ua + 1) * 4294967296 ≤ (q0 + 1) * v1 * 4294967296 := Nat.mul_le_mul_right _ h5
  rw [← hVt, Nat.mul_add, ← Nat.mul_assoc]
  omega
 obtain ⟨q', e, g⟩ := divide_guess_loop (u := u) (v := v) (i := i) hn hi hs h1 h2 h3 (by omega) (by omega) (by omega) (by omega) hP (by rw [hVt]; exact hV) d1 d2 (by rw [hT]; exact hW) d3 d4 hWV hnum hV0 2 q0 r0 (by omega) (by omega) (by rw [Nat.mul_comm]; omega) hq1 hhi
 refine ⟨q', ?_, g⟩
 refine divide_guess_go ⟨by rw [w_add (by omega)]; omega, by rw [w_add (by omega)]; omega, by rw [w3 ()]; omega, by rw [w3 ()]; omega, _, rfl, by rw [w1 ()]; omega, by rw [w1 ()]; omega, by rw [w1 (), Int.toNat_natCast, h1]; omega, ?_⟩
 rw [w3 (), w1 (), w_add (by omega), Int.toNat_natCast, Int.toNat_natCast, Int.toNat_natCast, h1, ha, hub, show (2 : Int) ^ 32 = 4294967296 from rfl, hor (), td (by omega), tm (by omega), hwq (), hwr ()]
 exact e
end Go.Proofs.YtjcdkemnflmfiaaGreatA
namespace Go.Proofs.YtjcdkemnflmfiaaGreatA
open Go
theorem val_split (u : List Int) (i : Nat) (hi : i ≤ u.length) : val 4294967296 u = val 4294967296 (u.take i) + 4294967296 ^ i * val 4294967296 (u.drop i) := val_take_drop _ u i hi
theorem high_zero {u : List Int} (hu : Dig 4294967296 u) {n : Nat} (h : val 4294967296 u < 4294967296 ^ n) (t : Nat) (ht : n ≤ t) : u.getD t 0 = 0 := by
 by_cases hl : t < u.length
 ·have h1 := val_drop_zero (by omega) hu n h
  have h2 : val 4294967296 (u.drop t) = 0 := by
   have hd := val_take_drop 4294967296 (u.drop n) (t - n) (by rw [List.length_drop]; omega)
   rw [h1, List.drop_drop, show n + (t - n) = t by omega] at hd
   have p1 := val_nonneg (by omega) ((hu.drop n).take (t - n))
   have p2 := val_nonneg (by omega) (hu.drop t)
   have p3 : (0 : Int) < 4294967296 ^ (t - n) := Int.pow_pos (by omega)
   have p4 := Int.mul_nonneg (Int.le_of_lt p3) p2
   have p5 : 4294967296 ^ (t - n) * val 4294967296 (u.drop t) = 0 := by omega
   rcases Int.mul_eq_zero.1 p5 with h | h
   ·omega
   ·exact h
  rw [val_drop _ _ _ hl] at h2
  have g := Dig.getD (by omega) hu t
  have p2 := val_nonneg (by omega) (hu.drop (t + 1))
  omega
 ·exact getD_ge (by omega)
theorem step_exact {U low W V Bi N q U1 : Int} (hU : U = low + Bi * W) (hl1 : low < Bi) (hBi : 0 < Bi) (hW : W < (q + 1) * V) (h1 : U1 = U - Bi * (q * V) + Bi * N * 0) : U1 < Bi * V := by
 have h2 : Bi * (W + 1) ≤ Bi * ((q + 1) * V) := Int.mul_le_mul_of_nonneg_left (by omega) (Int.le_of_lt hBi)
 have e1 : Bi * (W + 1) = Bi * W + Bi := by grind
 have e2 : Bi * ((q + 1) * V) = Bi * (q * V) + Bi * V := by grind
 rw [e1, e2] at h2
 subst hU
 rw [h1]
 simp only [Int.mul_zero]
 omega
theorem step_back {U low W V Bi N q U1 U2 c : Int} (hU : U = low + Bi * W) (hl0 : 0 ≤ low) (hBi : 0 < Bi) (hWq : (q - 1) * V ≤ W) (h1 : U1 = U - Bi * (q * V) + Bi * N * 1) (hU1 : U1 < Bi * N)
  (hc : c = 0 ∨ c = 1) (h2 : U2 = U1 + Bi * V - Bi * N * c) (hU2 : U2 < Bi * N) : c = 1 ∧ U2 = U - Bi * ((q - 1) * V) ∧ U2 < Bi * V ∧ U < Bi * (q * V) := by
 have h3 : Bi * ((q - 1) * V) ≤ Bi * W := Int.mul_le_mul_of_nonneg_left hWq (Int.le_of_lt hBi)
 have e2 : Bi * ((q - 1) * V) = Bi * (q * V) - Bi * V := by grind
 rw [e2] at h3
 rw [e2]
 simp only [Int.mul_one] at h1
 rcases hc with rfl | rfl
 ·simp only [Int.mul_zero] at h2
  omega
 ·simp only [Int.mul_one] at h2
  omega
theorem knuth_round {u v : List Int} (hu : Dig 4294967296 u) (hv : Dig 4294967296 v) {i : Nat} (hn : 2 ≤ v.length) (hi : i + v.length < u.length) (hs : u.length ≤ 1000000000) (hb : 2147483648 ≤ v.getD (v.length - 1) 0)
    (hU : val 4294967296 u < 4294967296 ^ (i + 1) * val 4294967296 v) :
    ∃ (q : Nat) (u1 : List Int) (w : Nat), divide_guess_R u (i : Int) v (q : Int) ∧ q < 4294967296 ∧ divide_take_R u (i : Int) v (q : Int) (decide (0 < (w : Int))) u1 ∧ Dig 4294967296 u1 ∧ u1.length = u.length ∧
      ((w = 0 ∧ val 4294967296 u1 = val 4294967296 u - 4294967296 ^ i * ((q : Int) * val 4294967296 v) ∧ val 4294967296 u1 < 4294967296 ^ i * val 4294967296 v) ∨
       (w = 1 ∧ 1 ≤ q ∧ ∃ u2, divide_give_R u1 (i : Int) v u2 ∧ Dig 4294967296 u2 ∧ u2.length = u.length ∧ val 4294967296 u2 = val 4294967296 u - 4294967296 ^ i * (((q : Int) - 1) * val 4294967296 v) ∧ val 4294967296 u2 < 4294967296 ^ i * val 4294967296 v)) := by
  have hBi : (0 : Int) < 4294967296 ^ i := Int.pow_pos (by omega)
  have hsp := val_split u i (by omega)
  have l0 := val_nonneg (by omega) (hu.take i)
  have l1 := val_lt (by omega) (hu.take i)
  rw [List.length_take, Nat.min_eq_left (by omega)] at l1
  have hV1 := val_lt (by omega) hv
  have hU2 : val 4294967296 u < 4294967296 ^ (i + v.length + 1) := by
    have h1 : (4294967296 : Int) ^ (i + 1) * val 4294967296 v ≤ 4294967296 ^ (i + 1) * 4294967296 ^ v.length := Int.mul_le_mul_of_nonneg_left (by omega) (Int.le_of_lt (Int.pow_pos (by omega)))
    rw [← Int.pow_add, show i + 1 + v.length = i + v.length + 1 by omega] at h1
    omega
  have hz := high_zero hu hU2
  have hWV : val 4294967296 (u.drop i) < 4294967296 * val 4294967296 v := by
    refine Int.lt_of_mul_lt_mul_left (a := 4294967296 ^ i) ?_ (Int.le_of_lt hBi)
    rw [Int.pow_succ, Int.mul_assoc] at hU
    omega
  obtain ⟨q, eg, hq, hq1, hq2⟩ := divide_guess_is hu hv hn hi hs hb hz hWV
  obtain ⟨u1, w, et, g1, g2, g3, g4, g5⟩ := divide_take_loop hv hq (i := i) (U := val 4294967296 u) (v.length + 1) 0 u 0 0 (by omega) hu (by omega) hs (by omega) (by omega) (by omega) (by simp [val])
  have hB : ∀ u' : List Int, Dig 4294967296 u' → u'.length = u.length → (∀ t, i + v.length + 1 ≤ t → u'.getD t 0 = u1.getD t 0) → val 4294967296 u' < 4294967296 ^ i * 4294967296 ^ (v.length + 1) := by
    intro u' hd hl ht
    rw [← Int.pow_add, show i + (v.length + 1) = i + v.length + 1 by omega]
    have h1 : val 4294967296 (u'.take (i + v.length + 1)) = val 4294967296 u' := val_take_zeros _ _ _ (fun j hj => by rw [ht j hj, g4 j hj, hz j hj])
    have h2 := val_lt (by omega) (hd.take (i + v.length + 1))
    rw [List.length_take, Nat.min_eq_left (by omega)] at h2
    omega
  have et' : divide_take_R u (i : Int) v (q : Int) (decide (0 < (w : Int))) u1 := by
    refine divide_take_go (fun cb ver => ?_)
    rw [w_succ (by omega)]
    exact et cb ver
  refine ⟨q, u1, w, eg, hq, et', g1, g2, ?_⟩
  by_cases hw : w = 0
  · subst hw
    refine .inl ⟨rfl, ?_, step_exact (q := (q : Int)) (N := 4294967296 ^ (v.length + 1)) hsp l1 hBi hq2 (by rw [g5]; rfl)⟩
    rw [g5]; simp
  · obtain rfl : w = 1 := by omega
    obtain ⟨u2, c, ev, k1, k2, k3, k4, k5⟩ := divide_give_loop hv (i := i) (U := val 4294967296 u1) (v.length + 1) 0 u1 0 (by omega) g1 (by omega) (by omega) (by omega) (by simp [val])
    obtain ⟨_, m1, m2, m3⟩ := step_back (q := (q : Int)) (N := 4294967296 ^ (v.length + 1)) (c := (c : Int)) hsp l0 hBi hq1 (by rw [g5]; rfl) (hB u1 g1 g2 (fun _ _ => rfl)) (by omega) k5 (hB u2 k1 (by omega) k4)
    refine .inr ⟨rfl, ?_, u2, ?_, k1, by omega, m1, m2⟩
    · by_cases h0 : q = 0
      · subst h0
        have := val_nonneg (by omega) hu
        simp at m3; omega
      · omega
    · refine divide_give_go (fun cb ver => ?_)
      rw [w_succ (by omega)]
      exact ev cb ver
theorem alg_knuth (X U V Bi Q q : Int) (h : X = U + V * (Bi * 4294967296 * Q)) : X = U - Bi * (q * V) + V * (Bi * (q + 4294967296 * Q)) := by rw [h]; grind
theorem knuth_loop {v : List Int} (hv : Dig 4294967296 v) (hn : 2 ≤ v.length) (hb : 2147483648 ≤ v.getD (v.length - 1) 0) {s X : Nat} (hs : s < 32) {V : Nat} (hV : val 4294967296 v = (V : Int)) {L : Nat} (hL : L ≤ 1000000000)
  : ∀ (i : Nat) (u qd : List Int), i + v.length ≤ L → u.length = L → qd.length ≤ L → i ≤ qd.length → Dig 4294967296 u → Dig 4294967296 qd →
  (X : Int) = val 4294967296 u + (V : Int) * (4294967296 ^ i * val 4294967296 (qd.drop i)) → val 4294967296 u < 4294967296 ^ i * (V : Int) →
  divide_knuth_l0 (s : Int) v ((i : Int) - 1) u qd (lim (X / V)) (lim (X % V / 2 ^ s)) := by
 intro i
 induction i with
 | zero =>
  intro u qd hi hul hql hiq hu hqd hX hlt
  rw [List.drop_zero, Int.pow_zero, Int.one_mul] at hX
  rw [Int.pow_zero, Int.one_mul] at hlt
  have hd := divmod_unique (n := (X : Int)) (d := (V : Int)) (q := val 4294967296 qd) (r := val 4294967296 u) (by rw [hX, Int.mul_comm (V : Int)]; omega) (val_nonneg (by omega) hu) hlt
  refine divide_knuth_l0_go (.inr ⟨by omega, _, _, nat_Make_is hqd (by omega) (x := X / V) (by rw [← hd.1, Int.natCast_ediv]), _, _, nat_Make_is hu (by omega) (x := X % V) (by rw [← hd.2, Int.natCast_emod]), _, _, nat_Shr_is (x := X % V) hs ?_, rfl, rfl⟩)
  refine Nat.le_trans (norm_len_le (b := 4294967296) (by omega) (lim_dig _) (lim_norm _) hu ?_) (by omega)
  rw [lim_val, ← hd.2, Int.natCast_emod]; exact Int.le_refl _
 | succ i ih =>
  intro u qd hi hul hql hiq hu hqd hX hlt
  have hw : ((i + 1 : Nat) : Int) - 1 = (i : Int) := by omega
  rw [hw]
  obtain ⟨q, u1, w, eg, hq, et, g1, g2, g3⟩ := knuth_round hu hv (i := i) hn (by omega) (by omega) hb (by rw [hV]; exact hlt)
  have hpi : wi ((i : Int) - 1) = (i : Int) - 1 := by rw [s64i (by omega) (by omega)]
  have hX' := alg_knuth (X : Int) (val 4294967296 u) (V : Int) (4294967296 ^ i) (val 4294967296 (qd.drop (i + 1))) (q : Int) (by rw [hX, Int.pow_succ])
  have hgq : (qd.set i (q : Int)).getD i 0 = (q : Int) := getD_set_eq (by omega) _
  rcases g3 with ⟨rfl, h1, h2⟩ | ⟨rfl, hq1, u2, ev, h1, h2, h3, h4⟩
  ·refine divide_knuth_l0_go (.inl ⟨by omega, _, eg, by omega, _, rfl, by rw [List.length_set]; omega, false, u1, g2, by rw [Int.toNat_natCast, hgq]; exact et, .inr ⟨by simp, ?_⟩⟩)
   rw [hpi, Int.toNat_natCast]
   refine ih u1 _ (by omega) (by omega) (by rw [List.length_set]; exact hql) (by rw [List.length_set]; omega) g1 (hqd.set (by omega) _) ?_ (by rw [← hV]; exact h2)
   rw [val_drop _ _ _ (by rw [List.length_set]; omega), getD_set_eq (by omega), List.drop_set_of_lt (by omega), h1, hV]
   exact hX'
  ·refine divide_knuth_l0_go (.inl ⟨by omega, _, eg, by omega, _, rfl, by rw [List.length_set]; omega, true, u1, g2, by rw [Int.toNat_natCast, hgq]; exact et, .inl ⟨rfl, _, rfl, u2, by omega, ev, ?_⟩⟩)
   rw [hpi, Int.toNat_natCast, hgq, w64i (n := (q : Int) - 1) (by omega) (by omega)]
   refine ih u2 _ (by omega) (by omega) (by rw [List.length_set, List.length_set]; exact hql) (by rw [List.length_set, List.length_set]; omega) h1 ((hqd.set (by omega) _).set (by omega) _) ?_ (by rw [← hV]; exact h4)
   have hX' := alg_knuth (X : Int) (val 4294967296 u) (V : Int) (4294967296 ^ i) (val 4294967296 (qd.drop (i + 1))) ((q : Int) - 1) (by rw [hX, Int.pow_succ])
   rw [val_drop _ _ _ (by rw [List.length_set, List.length_set]; omega), getD_set_eq (by rw [List.length_set]; omega), List.drop_set_of_lt (by omega), List.drop_set_of_lt (by omega), h3, hV]
   exact hX'
end Go.Proofs.YtjcdkemnflmfiaaGreatA
namespace Go.Proofs.YtjcdkemnflmfiaaGreatA
open Go
theorem pow32' (n : Nat) : 0 < 4294967296 ^ n := Nat.pow_pos (by omega)
theorem top_limb {x n : Nat} (h : (lim x).length = n + 1) : (lim x).getD n 0 = ((x / 4294967296 ^ n : Nat) : Int) := by
 have h1 := (lim_take x n).2
 rw [val_drop _ _ _ (by omega), List.drop_of_length_le (by omega)] at h1
 simpa [val] using h1
theorem lim_ge {x n : Nat} (h : n < (lim x).length) : 4294967296 ^ n ≤ x := by
 rcases Nat.lt_or_ge x (4294967296 ^ n) with h1 | h1
 ·have := lim_len.2 h1
  omega
 ·exact h1
theorem lim_lt {x : Nat} : x < 4294967296 ^ (lim x).length := lim_len.1 (Nat.le_refl _)
theorem pow_split {m s : Nat} (h : m + s = 32) (P : Nat) : 2 ^ m * P * 2 ^ s = 4294967296 * P := by
 have h2 : (4294967296 : Nat) = 2 ^ m * 2 ^ s := by rw [← Nat.pow_add, h]
 rw [h2, Nat.mul_right_comm]
theorem pow_split' {m s : Nat} (h : m + s = 31) (P : Nat) : 2 ^ m * P * 2 ^ s = 2147483648 * P := by
 have h2 : (2147483648 : Nat) = 2 ^ m * 2 ^ s := by rw [← Nat.pow_add, h]
 rw [h2, Nat.mul_right_comm]
theorem shift_top {y n m : Nat} (hy : (lim y).length = n + 1) (hm : Len ((lim y).getD n 0) m) (h32 : m ≤ 32) : 1 ≤ m ∧ (lim (y * 2 ^ (32 - m))).length = n + 1 ∧ 2147483648 ≤ (lim (y * 2 ^ (32 - m))).getD n 0 := by
 have hP := pow32' n
 have hge := lim_ge (x := y) (n := n) (by omega)
 rw [top_limb hy] at hm
 have hT : 1 ≤ y / 4294967296 ^ n := (Nat.le_div_iff_mul_le hP).2 (by omega)
 have hm1 : y / 4294967296 ^ n < 2 ^ m := by
  have := hm.1
  have e : ((2 : Int) ^ m) = ((2 ^ m : Nat) : Int) := by rw [Int.natCast_pow]; rfl
  rw [e] at this; omega
 have h1 : 1 ≤ m := by
  rcases Nat.eq_zero_or_pos m with rfl | h
  ·simp at hm1; omega
  ·exact h
 have hm2 : 2 ^ (m - 1) ≤ y / 4294967296 ^ n := by
  rcases hm.2 with h | h
  ·omega
  ·have e : ((2 : Int) ^ (m - 1)) = ((2 ^ (m - 1) : Nat) : Int) := by rw [Int.natCast_pow]; rfl
   rw [e] at h; omega
 have hlo : 2 ^ (m - 1) * 4294967296 ^ n ≤ y := (Nat.le_div_iff_mul_le hP).1 hm2
 have hhi : y < 2 ^ m * 4294967296 ^ n := (Nat.div_lt_iff_lt_mul hP).1 hm1
 have hlo2 := Nat.mul_le_mul_right (2 ^ (32 - m)) hlo
 rw [pow_split' (by omega)] at hlo2
 have hhi2 := Nat.mul_lt_mul_of_pos_right hhi (Nat.two_pow_pos (32 - m))
 rw [pow_split (by omega)] at hhi2
 have hlen : (lim (y * 2 ^ (32 - m))).length = n + 1 := by
  refine Nat.le_antisymm (lim_len.2 (by rw [Nat.pow_succ, Nat.mul_comm (4294967296 ^ n)]; exact hhi2)) ?_
  refine Nat.lt_of_not_le fun h => ?_
  have := lim_len.1 h
  omega
 refine ⟨h1, hlen, ?_⟩
 rw [top_limb hlen]
 have := (Nat.le_div_iff_mul_le hP).2 hlo2
 omega
theorem padded {x n : Nat} (h : (lim x).length ≤ n) : (List.replicate n (0 : Int)).take 0 ++ ((lim x).take (min (lim x).length (List.replicate n (0 : Int)).length) ++ (List.replicate n (0 : Int)).drop (0 + min (lim x).length (List.replicate n (0 : Int)).length)) = lim x ++ List.replicate (n - (lim x).length) 0 := by
 rw [List.length_replicate, Nat.min_eq_left h, Nat.zero_add, List.take_of_length_le (Nat.le_refl _), List.drop_replicate]
 simp
theorem divide_knuth_is {x y : Nat} (hx : (lim x).length ≤ 500000000) (hy : 2 ≤ (lim y).length) (hxy : (lim y).length ≤ (lim x).length) : divide_knuth_R (lim x) (lim y) (lim (x / y)) (lim (x % y)) := by
 obtain ⟨n, hn⟩ : ∃ n, (lim y).length = n + 1 := ⟨(lim y).length - 1, by omega⟩
 have gt := Dig.getD (by omega) (lim_dig y) n
 obtain ⟨m, hb, hm32, hL⟩ := limb_Bits_is (a := (lim y).getD n 0) (by omega)
 rw [show (lim y).getD n 0 % 4294967296 = (lim y).getD n 0 by omega] at hL
 obtain ⟨hm1, hVl, hVt⟩ := shift_top hn hL hm32
 have e1 : wi (((lim y).length : Int) - 1) = (n : Int) := by rw [s64i (by omega) (by omega)]; omega
 have e2 : wi (32 - (m : Int)) = ((32 - m : Nat) : Int) := by rw [s64i (by omega) (by omega)]; omega
 have e3 : wi (((lim x).length : Int) + 1) = (((lim x).length + 1 : Nat) : Int) := w_succ (by omega)
 have e4 : wi (((lim x).length : Int) - ((lim y).length : Int)) = (((lim x).length - n : Nat) : Int) - 1 := by rw [s64i (by omega) (by omega)]; omega
 have e5 : wi ((((lim x).length - n : Nat) : Int) - 1 + 1) = (((lim x).length - n : Nat) : Int) := by rw [s64i (by omega) (by omega)]; omega
 have hs : 32 - m < 32 := by omega
 have hp := pow_le31 hs
 have hxl := lim_lt (x := x)
 have hyge := lim_ge (x := y) (n := n) (by omega)
 have hXl : (lim (x * 2 ^ (32 - m))).length ≤ (lim x).length + 1 := by
  refine lim_len.2 ?_
  rw [Nat.pow_succ]
  exact Nat.lt_of_le_of_lt (Nat.mul_le_mul_left _ hp) (Nat.mul_lt_mul'' hxl (by omega))
 refine divide_knuth_go ?_
 rw [e1, e3, e4, e5, Int.toNat_natCast, Int.toNat_natCast, Int.toNat_natCast]
 refine ⟨by omega, by omega, _, hb, ?_⟩
 rw [e2]
 refine ⟨_, _, nat_Shl_is (by omega) hs, by omega, by omega, _, rfl, _, _, nat_Shl_is (by omega) hs, _, rfl, by omega, by omega, _, rfl, ?_⟩
 rw [padded hXl]
 have hfin := knuth_loop (v := lim (y * 2 ^ (32 - m))) (lim_dig _) (by omega) (by rw [hVl]; exact hVt) (s := 32 - m) (X := x * 2 ^ (32 - m)) hs (lim_val _) (L := (lim x).length + 1) (by omega) ((lim x).length - n) (lim (x * 2 ^ (32 - m)) ++ List.replicate ((lim x).length + 1 - (lim (x * 2 ^ (32 - m))).length) 0) (List.replicate ((lim x).length - n) 0)
  (by omega) (by rw [List.length_append, List.length_replicate]; omega) (by rw [List.length_replicate]; omega) (by rw [List.length_replicate]; omega) ((lim_dig _).append (Dig.zeros (by omega) _)) (Dig.zeros (by omega) _) ?_ ?_
 ·rw [Nat.mul_div_mul_right _ _ (Nat.two_pow_pos _), Nat.mul_mod_mul_right, Nat.mul_div_cancel _ (Nat.two_pow_pos _)] at hfin
  exact hfin
 ·rw [val_append, val_zeros, lim_val, List.drop_replicate, val_zeros]; simp
 ·rw [val_append, val_zeros, lim_val, Int.mul_zero, Int.add_zero, ← pow32, ← Int.natCast_mul]
  refine Int.ofNat_lt.2 ?_
  rw [← Nat.mul_assoc]
  refine Nat.mul_lt_mul_of_pos_right ?_ (Nat.two_pow_pos _)
  refine Nat.lt_of_lt_of_le hxl ?_
  have : 4294967296 ^ (lim x).length = 4294967296 ^ ((lim x).length - n) * 4294967296 ^ n := by rw [← Nat.pow_add, show (lim x).length - n + n = (lim x).length by omega]
  rw [this]
  exact Nat.mul_le_mul_left _ hyge
theorem lim_short {y : Nat} (h : (lim y).length = 1) : lim y = [(y : Int)] ∧ 0 < y ∧ y < 4294967296 := by
 have h1 : y < 4294967296 := by have := lim_len.1 (Nat.le_of_eq h); omega
 have h2 : 0 < y := by
  rcases Nat.eq_zero_or_pos y with rfl | h2
  ·rw [lim_nil.2 rfl] at h; cases h
  ·exact h2
 exact ⟨digs_one (by omega) h2 h1, h2, h1⟩
theorem divide_Div_is {x y : Nat} (hx : (lim x).length ≤ 500000000) (hyl : (lim y).length ≤ 500000000) (hy : 0 < y) : divide_Div_R (lim x) (lim y) (lim (x / y)) (lim (x % y)) 0 := by
 have hy0 : (lim y).length ≠ 0 := fun h => by have := lim_nil.1 (List.length_eq_zero_iff.1 h); omega
 refine divide_Div_go (.inr ⟨by omega, _, nat_May_lim (by omega), .inl ⟨rfl, _, nat_May_lim (by omega), .inl ⟨rfl, _, nat_Cmp_is (by omega) (by omega), ?_⟩⟩⟩)
 by_cases hlt : x < y
 ·rw [if_pos hlt, Nat.div_eq_of_lt hlt, Nat.mod_eq_of_lt hlt]
  exact .inl ⟨by omega, _, _, nat_Make_is (lim_dig x) (by omega) (lim_val x), lim_nil.2 rfl, rfl, rfl⟩
 ·rw [if_neg hlt]
  refine .inr ⟨by split <;> omega, ?_⟩
  by_cases h1 : (lim y).length = 1
  ·obtain ⟨h2, h3, h4⟩ := lim_short h1
   refine .inl ⟨by omega, by omega, _, _, _, by rw [h2]; exact divide_Small_is (by omega) h3 h4, _, nat_Of_is (by have := Nat.mod_lt x h3; omega), rfl, rfl, rfl⟩
  ·refine .inr ⟨by omega, _, _, divide_knuth_is hx (by omega) (digs_len_mono (by omega) (by omega)), rfl, rfl, rfl⟩
theorem divide_Mod_is {x y : Nat} (hx : (lim x).length ≤ 500000000) (hyl : (lim y).length ≤ 500000000) (hy : 0 < y) : divide_Mod_R (lim x) (lim y) (lim (x % y)) 0 := divide_Mod_go ⟨_, _, _, divide_Div_is hx hyl hy, rfl, rfl⟩
theorem divide_Exact_is {x y : Nat} (hx : (lim x).length ≤ 500000000) (hyl : (lim y).length ≤ 500000000) (hy : 0 < y) (hd : x % y = 0) : divide_Exact_R (lim x) (lim y) (lim (x / y)) 0 :=
 divide_Exact_go ⟨_, _, _, divide_Div_is hx hyl hy, .inl ⟨rfl, .inr ⟨by rw [hd, lim_nil.2 rfl]; simp, rfl, rfl⟩⟩⟩
theorem gcd_Euclid_loop : ∀ (y : Nat) (x : Nat), (lim x).length ≤ 500000000 → (lim y).length ≤ 500000000 → gcd_Euclid_l0 (lim x) (lim y) (lim (Nat.gcd x y)) := by
 intro y
 induction y using Nat.strongRecOn with
 | _ y ih =>
  intro x hx hy
  rcases Nat.eq_zero_or_pos y with rfl | h0
  ·rw [Nat.gcd_zero_right]
   exact gcd_Euclid_l0_go (.inr ⟨by rw [lim_nil.2 rfl]; simp, rfl⟩)
  ·refine gcd_Euclid_l0_go (.inl ⟨?_, _, _, divide_Mod_is hx hy h0, ?_⟩)
   ·have : (lim y).length ≠ 0 := fun h => by have := lim_nil.1 (List.length_eq_zero_iff.1 h); omega
    omega
   ·have := ih (x % y) (Nat.mod_lt _ h0) y hy (Nat.le_trans (digs_len_mono (by omega) (Nat.le_of_lt (Nat.mod_lt x h0))) hy)
    rw [Nat.gcd_comm x y, Nat.gcd_rec, Nat.gcd_comm]
    exact this
theorem gcd_Euclid_is {x y : Nat} (hx : (lim x).length ≤ 500000000) (hy : (lim y).length ≤ 500000000) : gcd_Euclid_R (lim x) (lim y) (lim (Nat.gcd x y)) :=
 gcd_Euclid_go ⟨_, _, nat_Make_is (lim_dig x) (by omega) (lim_val x), _, _, nat_Make_is (lim_dig y) (by omega) (lim_val y), gcd_Euclid_loop y x hx hy⟩
end Go.Proofs.YtjcdkemnflmfiaaGreatA
namespace Go.Proofs.YtjcdkemnflmfiaaGreatA
open Go
def ng (z : Int) : Bool := decide (z < 0)
def ab (z : Int) : List Int := lim z.natAbs
def sg (b : Bool) (n : Nat) : Int := if b = true then -(n : Int) else n
def sn (x : Int) : Int := if x < 0 then -1 else if 0 < x then 1 else 0
theorem ng_neg {z : Int} (h : z < 0) : ng z = true := decide_eq_true h
theorem ng_pos {z : Int} (h : ¬ z < 0) : ng z = false := decide_eq_false h
theorem ng_ne {z : Int} (h : ¬ z < 0) : ¬ ng z = true := by rw [ng_pos h]; simp
theorem sg_neg {z : Int} (h : z < 0) (n : Nat) : sg (ng z) n = -(n : Int) := by rw [ng_neg h]; rfl
theorem sg_pos {z : Int} (h : ¬ z < 0) (n : Nat) : sg (ng z) n = (n : Int) := by rw [ng_pos h]; rfl
theorem ng_nat (d : Nat) : ng (d : Int) = false := ng_pos (by omega)
theorem ab_nat (d : Nat) : ab (d : Int) = lim d := by rw [ab, Int.natAbs_natCast]
theorem lim_pos {n : Nat} : (0 < ((lim n).length : Int)) ↔ 0 < n := by
 constructor
 ·intro h
  rcases Nat.eq_zero_or_pos n with rfl | h1
  ·rw [lim_nil.2 rfl] at h; simp at h
  ·exact h1
 ·intro h
  have : (lim n).length ≠ 0 := fun h1 => by have := lim_nil.1 (List.length_eq_zero_iff.1 h1); omega
  omega
theorem ab_zero {x : Int} : ((ab x).length : Int) = 0 ↔ x = 0 := by
 have := lim_pos (n := x.natAbs)
 constructor <;> intro h <;> (unfold ab at *; omega)
theorem made_is {b : Bool} {n : Nat} {z : Int} (hz : z = sg b n) (hn : (lim n).length ≤ 1000000) : whole_Made_R b (lim n) (ng z) (ab z) := by
 refine whole_Made_go ⟨_, _, nat_Make_lim (by omega), ?_⟩
 subst hz
 have e : ∀ m : Int, m.natAbs = n → lim m.natAbs = lim n := fun m h => by rw [h]
 cases b with
 | true => exact .inl ⟨rfl, decide_eq_decide.2 (by rw [lim_pos]; simp [sg]), e _ (by simp [sg])⟩
 | false => exact .inr ⟨by simp, ng_pos (by simp [sg]), e _ (by simp [sg])⟩
def zl (n : Nat) (x : Int) : Prop := (ab x).length ≤ n
theorem zl.mono {m n : Nat} {x : Int} (h : zl m x) (hmn : m ≤ n) : zl n x := Nat.le_trans h hmn
theorem zl.add {n : Nat} {x y : Int} (hx : zl n x) (hy : zl n y) : zl (n + 1) (x + y) := Nat.le_trans (lim_len_mono (by omega)) (lim_add_len hx hy)
theorem zl.mul {m n : Nat} {x y : Int} (hx : zl m x) (hy : zl n y) : zl (m + n) (x * y) := by
 unfold zl ab
 rw [Int.natAbs_mul]; exact lim_mul_len hx hy
theorem zl.neg {n : Nat} {x : Int} (hx : zl n x) : zl n (-x) := by
 unfold zl ab
 rw [Int.natAbs_neg]; exact hx
theorem zl.nat {n d : Nat} (h : (lim d).length ≤ n) : zl n (d : Int) := by
 unfold zl
 rw [ab_nat]; exact h
theorem whole_Neg_is {x : Int} (hx : zl 100000 x) : whole_Neg_R (ng x) (ab x) (ng (-x)) (ab (-x)) := by
 refine whole_Neg_go ⟨_, _, made_is (z := -x) ?_ (Nat.le_trans hx (by omega)), rfl, rfl⟩
 by_cases h : x < 0
 ·rw [ng_neg h]; simp [sg]; omega
 ·rw [ng_pos h]; simp [sg]; omega
theorem whole_Sign_is (x : Int) : whole_Sign_R (ng x) (ab x) (sn x) := by
 refine whole_Sign_go ?_
 by_cases h0 : x = 0
 ·exact .inl ⟨ab_zero.2 h0, by rw [h0]; rfl⟩
 ·refine .inr ⟨fun h => h0 (ab_zero.1 h), ?_⟩
  by_cases h : x < 0
  ·exact .inl ⟨ng_neg h, if_pos h⟩
  ·exact .inr ⟨ng_ne h, by unfold sn; rw [if_neg h, if_pos (by omega)]⟩
theorem whole_Cmp_is {x y : Int} (hx : zl 100000 x) (hy : zl 100000 y) : whole_Cmp_R (ng x) (ab x) (ng y) (ab y) (if x < y then -1 else if y < x then 1 else 0) := by
 refine whole_Cmp_go ⟨_, whole_Sign_is x, _, whole_Sign_is y, ?_⟩
 by_cases h1 : sn x < sn y
 ·refine .inl ⟨h1, ?_⟩
  rw [if_pos]
  unfold sn at h1; grind
 ·by_cases h2 : sn y < sn x
  ·refine .inr ⟨h1, .inl ⟨h2, ?_⟩⟩
   rw [if_neg, if_pos] <;> (unfold sn at h2; grind)
  ·refine .inr ⟨h1, .inr ⟨h2, _, nat_Cmp_is (Nat.le_trans hx (by omega)) (Nat.le_trans hy (by omega)), ?_⟩⟩
   have hs : ∀ s c : Int, -1 ≤ s → s ≤ 1 → (c = -1 ∨ c = 0 ∨ c = 1) → wi (s * c) = s * c := by
    intro s c h1 h2 h3
    rcases h3 with h | h | h <;> subst h <;> exact s64i (by omega) (by omega)
   rw [hs _ _ (by unfold sn; split <;> (try split) <;> omega) (by unfold sn; split <;> (try split) <;> omega) (by split <;> (try split) <;> simp)]
   unfold sn at *
   grind
theorem whole_Add_is {x y : Int} (hx : zl 100000 x) (hy : zl 100000 y) : whole_Add_R (ng x) (ab x) (ng y) (ab y) (ng (x + y)) (ab (x + y)) := by
 have hx' : (lim x.natAbs).length ≤ 100000 := hx
 have hy' : (lim y.natAbs).length ≤ 100000 := hy
 have hS : ∀ n : Nat, n ≤ x.natAbs + y.natAbs → (lim n).length ≤ 1000000 := fun n h => Nat.le_trans (lim_len_mono h) (Nat.le_trans (lim_add_len hx' hy') (by omega))
 refine whole_Add_go ?_
 by_cases h1 : x < 0
 ·refine .inl ⟨ng_neg h1, ?_⟩
  by_cases h2 : y < 0
  ·exact .inl ⟨ng_neg h2, _, nat_Add_is (Nat.le_trans hx' (by omega)) (Nat.le_trans hy' (by omega)), _, _, made_is (z := x + y) (by rw [sg_neg h1]; omega) (hS _ (by omega)), rfl, rfl⟩
  ·refine .inr ⟨ng_ne h2, ?_⟩
   by_cases h3 : y.natAbs ≤ x.natAbs
   ·exact ⟨_, _, nat_Sub_ge (Nat.le_trans hx' (by omega)) (Nat.le_trans hy' (by omega)) h3, .inl ⟨rfl, _, _, made_is (z := x + y) (by rw [sg_neg h1]; omega) (hS _ (by omega)), rfl, rfl⟩⟩
   ·exact ⟨_, _, nat_Sub_lt (Nat.le_trans hx' (by omega)) (Nat.le_trans hy' (by omega)) (by omega), .inr ⟨by omega, _, _, nat_Sub_ge (Nat.le_trans hy' (by omega)) (Nat.le_trans hx' (by omega)) (by omega), _, _, made_is (z := x + y) (by rw [sg_pos h2]; omega) (hS _ (by omega)), rfl, rfl⟩⟩
 ·refine .inr ⟨ng_ne h1, ?_⟩
  by_cases h2 : y < 0
  ·refine .inl ⟨ng_neg h2, ?_⟩
   by_cases h3 : y.natAbs ≤ x.natAbs
   ·exact ⟨_, _, nat_Sub_ge (Nat.le_trans hx' (by omega)) (Nat.le_trans hy' (by omega)) h3, .inl ⟨rfl, _, _, made_is (z := x + y) (by rw [sg_pos h1]; omega) (hS _ (by omega)), rfl, rfl⟩⟩
   ·exact ⟨_, _, nat_Sub_lt (Nat.le_trans hx' (by omega)) (Nat.le_trans hy' (by omega)) (by omega), .inr ⟨by omega, _, _, nat_Sub_ge (Nat.le_trans hy' (by omega)) (Nat.le_trans hx' (by omega)) (by omega), _, _, made_is (z := x + y) (by rw [sg_neg h2]; omega) (hS _ (by omega)), rfl, rfl⟩⟩
  ·exact .inr ⟨ng_ne h2, _, nat_Add_is (Nat.le_trans hx' (by omega)) (Nat.le_trans hy' (by omega)), _, _, made_is (z := x + y) (by rw [sg_pos h1]; omega) (hS _ (by omega)), rfl, rfl⟩
theorem sg_mul (x y : Int) : x * y = sg (!(ng x == ng y)) (x.natAbs * y.natAbs) := by
 by_cases h1 : x < 0
 ·by_cases h2 : y < 0
  ·rw [ng_neg h1, ng_neg h2]
   show x * y = ((x.natAbs * y.natAbs : Nat) : Int)
   rw [Int.natCast_mul, show (x.natAbs : Int) = -x by omega, show (y.natAbs : Int) = -y by omega, Int.neg_mul_neg]
  ·rw [ng_neg h1, ng_pos h2]
   show x * y = -((x.natAbs * y.natAbs : Nat) : Int)
   rw [Int.natCast_mul, show (x.natAbs : Int) = -x by omega, show (y.natAbs : Int) = y by omega, Int.neg_mul, Int.neg_neg]
 ·by_cases h2 : y < 0
  ·rw [ng_pos h1, ng_neg h2]
   show x * y = -((x.natAbs * y.natAbs : Nat) : Int)
   rw [Int.natCast_mul, show (x.natAbs : Int) = x by omega, show (y.natAbs : Int) = -y by omega, Int.mul_neg, Int.neg_neg]
  ·rw [ng_pos h1, ng_pos h2]
   show x * y = ((x.natAbs * y.natAbs : Nat) : Int)
   rw [Int.natCast_mul, show (x.natAbs : Int) = x by omega, show (y.natAbs : Int) = y by omega]
theorem whole_Mul_is {x y : Int} (hx : zl 100000 x) (hy : zl 100000 y) : whole_Mul_R (ng x) (ab x) (ng y) (ab y) (ng (x * y)) (ab (x * y)) :=
 whole_Mul_go ⟨_, mul_Mul_is hx hy (by omega), _, _, made_is (sg_mul x y) (Nat.le_trans (lim_mul_len hx hy) (by omega)), rfl, rfl⟩
theorem whole_Of_is {n : Int} (h0 : -9223372036854775808 ≤ n) (h1 : n < 9223372036854775808) : whole_Of_R n (ng n) (ab n) := by
 have hs : ∀ m : Nat, m < 18446744073709551616 → (lim m).length ≤ 1000000 := fun m h => Nat.le_trans ((lim_len (n := 2)).2 (by omega)) (by omega)
 refine whole_Of_go ?_
 by_cases h : n < 0
 ·refine .inl ⟨h, ?_⟩
  rw [s64i (n := n + 1) (by omega) (by omega), s64i (n := 0 - (n + 1)) (by omega) (by omega), w64i (by omega) (by omega), show 0 - (n + 1) = ((n.natAbs - 1 : Nat) : Int) by omega]
  refine ⟨_, nat_Of_is (by omega), _, nat_Of_is (n := 1) (by omega), _, nat_Add_is (Nat.le_trans (hs _ (by omega)) (by omega)) (Nat.le_trans (hs _ (by omega)) (by omega)), _, _, made_is (z := n) ?_ (hs _ (by omega)), rfl, rfl⟩
  simp [sg]; omega
 ·refine .inr ⟨h, ?_⟩
  rw [w64i (by omega) (by omega), show n = ((n.natAbs : Nat) : Int) by omega]
  exact ⟨_, nat_Of_is (by omega), _, _, made_is (z := ((n.natAbs : Nat) : Int)) (by simp [sg]) (hs _ (by omega)), rfl, rfl⟩
def SZ (n : Nat) (q : Rat) : Prop := zl n q.num ∧ (lim q.den).length ≤ n
theorem SZ.mono {m n : Nat} {q : Rat} (h : SZ m q) (hmn : m ≤ n) : SZ n q := ⟨h.1.mono hmn, Nat.le_trans h.2 hmn⟩
theorem SZ.neg {n : Nat} {q : Rat} (h : SZ n q) : SZ n (-q) := ⟨h.1.neg, h.2⟩
theorem norm_num (n : Int) (d : Nat) (hd : d ≠ 0) : (Rat.normalize n d hd).num = sg (ng n) (n.natAbs / Nat.gcd n.natAbs d) := by
 rw [Rat.num_normalize]
 by_cases h : n < 0
 ·rw [sg_neg h, show n = -((n.natAbs : Nat) : Int) by omega, Int.natAbs_neg, Int.natAbs_natCast, Int.neg_ediv_of_dvd (Int.natCast_dvd_natCast.2 (Nat.gcd_dvd_left _ _)), Int.natCast_ediv]
 ·rw [sg_pos h, Int.natCast_ediv]
  congr 1
  omega
theorem norm_natAbs (n : Int) (d : Nat) (hd : d ≠ 0) : (Rat.normalize n d hd).num.natAbs = n.natAbs / Nat.gcd n.natAbs d := by
 rw [norm_num]
 by_cases h : n < 0
 ·rw [sg_neg h, Int.natAbs_neg, Int.natAbs_natCast]
 ·rw [sg_pos h, Int.natAbs_natCast]
theorem SZ.normalize {n : Nat} {x : Int} {d : Nat} (hd : d ≠ 0) (hx : zl n x) (hdl : (lim d).length ≤ n) : SZ n (Rat.normalize x d hd) := by
 refine ⟨?_, ?_⟩
 ·unfold zl ab
  rw [norm_natAbs]
  exact Nat.le_trans (lim_len_mono (Nat.div_le_self _ _)) hx
 ·rw [Rat.den_normalize]
  exact Nat.le_trans (lim_len_mono (Nat.div_le_self _ _)) hdl
theorem divInt_norm (a b : Int) (hb : b.natAbs ≠ 0) : Rat.divInt a b = Rat.normalize (if b < 0 then -a else a) b.natAbs hb := by
 cases b with
 | ofNat n =>
  have hb' : n ≠ 0 := hb
  show Rat.divInt a ((n : Nat) : Int) = Rat.normalize (if ((n : Nat) : Int) < 0 then -a else a) n hb'
  rw [Rat.divInt_ofNat, Rat.mkRat_def, dif_neg hb']
  congr 1
 | negSucc n =>
  rw [if_pos (by omega)]
  rfl
theorem SZ.divInt {n : Nat} {x y : Int} (hy : y ≠ 0) (hx : zl n x) (hyl : zl n y) : SZ n (Rat.divInt x y) := by
 rw [divInt_norm x y (by omega)]
 refine SZ.normalize _ ?_ hyl
 split
 ·exact hx.neg
 ·exact hx
theorem add_eq (a b : Rat) : a + b = Rat.divInt (a.num * (b.den : Int) + b.num * (a.den : Int)) ((a.den : Int) * (b.den : Int)) := by
 have h1 : (a.den : Int) ≠ 0 := by have := a.den_nz; omega
 have h2 : (b.den : Int) ≠ 0 := by have := b.den_nz; omega
 have := Rat.divInt_add_divInt a.num b.num h1 h2
 rw [Rat.num_divInt_den, Rat.num_divInt_den] at this
 exact this
theorem mul_eq (a b : Rat) : a * b = Rat.divInt (a.num * b.num) ((a.den : Int) * (b.den : Int)) := by
 have := Rat.divInt_mul_divInt a.num b.num (d₁ := (a.den : Int)) (d₂ := (b.den : Int))
 rw [Rat.num_divInt_den, Rat.num_divInt_den] at this
 exact this
theorem den_ne (a : Rat) : (a.den : Int) ≠ 0 := by have := a.den_nz; omega
theorem den_mul_ne (a b : Rat) : (a.den : Int) * (b.den : Int) ≠ 0 := Int.mul_ne_zero (den_ne a) (den_ne b)
theorem SZ.add {n : Nat} {a b : Rat} (ha : SZ n a) (hb : SZ n b) : SZ (n + n + 1) (a + b) := by
 rw [add_eq]
 exact SZ.divInt (den_mul_ne a b) ((ha.1.mul (zl.nat hb.2)).add (hb.1.mul (zl.nat ha.2))) (((zl.nat ha.2).mul (zl.nat hb.2)).mono (by omega))
theorem SZ.sub {n : Nat} {a b : Rat} (ha : SZ n a) (hb : SZ n b) : SZ (n + n + 1) (a - b) := by
 rw [Rat.sub_eq_add_neg]; exact ha.add hb.neg
theorem rat_low_is {n : Int} {d : Nat} (hd : d ≠ 0) (hn : zl 100000 n) (hdl : (lim d).length ≤ 100000) : rat_low_R (ng n) (ab n) (lim d) (ng (Rat.normalize n d hd).num) (ab (Rat.normalize n d hd).num) (lim (Rat.normalize n d hd).den) := by
 have hn' : (lim n.natAbs).length ≤ 100000 := hn
 have hg : 0 < Nat.gcd n.natAbs d := Nat.gcd_pos_of_pos_right _ (by omega)
 have hgl : (lim (Nat.gcd n.natAbs d)).length ≤ 500000000 := Nat.le_trans (lim_len_mono (Nat.gcd_le_right _ (by omega))) (by omega)
 refine rat_low_go ⟨_, gcd_Euclid_is (by omega) (by omega), _, _, divide_Exact_is (by omega) hgl hg (Nat.mod_eq_zero_of_dvd (Nat.gcd_dvd_left _ _)), _, _, divide_Exact_is (by omega) hgl hg (Nat.mod_eq_zero_of_dvd (Nat.gcd_dvd_right _ _)), _, _, made_is (norm_num n d hd) (Nat.le_trans (lim_len_mono (Nat.div_le_self _ _)) (by omega)), rfl, rfl, ?_⟩
 rw [Rat.den_normalize]
theorem rat_Make_is {a b : Int} (hb : b ≠ 0) (ha : zl 100000 a) (hbl : zl 100000 b) : rat_Make_R (ng a) (ab a) (ng b) (ab b) (ng (Rat.divInt a b).num) (ab (Rat.divInt a b).num) (lim (Rat.divInt a b).den) 0 := by
 refine rat_Make_go ⟨_, whole_Sign_is b, .inr ⟨by unfold sn; split <;> (try split) <;> omega, _, _, made_is (z := if b < 0 then -a else a) ?_ (Nat.le_trans ha (by omega)), _, _, _, rat_low_is (d := b.natAbs) (by omega) ?_ hbl, ?_⟩⟩
 ·by_cases h1 : a < 0 <;> by_cases h2 : b < 0
  ·rw [ng_neg h1, ng_neg h2, if_pos h2]; simp [sg]; omega
  ·rw [ng_neg h1, ng_pos h2, if_neg h2]; simp [sg]; omega
  ·rw [ng_pos h1, ng_neg h2, if_pos h2]; simp [sg]; omega
  ·rw [ng_pos h1, ng_pos h2, if_neg h2]; simp [sg]; omega
 ·split
  ·exact ha.neg
  ·exact ha
 ·rw [divInt_norm a b (by omega)]
  exact ⟨rfl, rfl, rfl, rfl⟩
theorem rat_Make_zero {a : Int} : rat_Make_R (ng a) (ab a) (ng (0)) (ab (0)) false [] [] 3 := rat_Make_go ⟨_, whole_Sign_is 0, .inl ⟨rfl, rfl, rfl, rfl, rfl⟩⟩
theorem rat_up_is {b : Bool} {l : List Int} {d : Nat} (hd : (lim d).length ≤ 100000) : rat_up_R b l (lim d) (ng ((d : Int))) (ab ((d : Int))) :=
 rat_up_go ⟨_, _, made_is (b := false) (z := (d : Int)) (by simp [sg]) (by omega), rfl, rfl⟩
theorem rat_Add_is {a b : Rat} (ha : SZ 10000 a) (hb : SZ 10000 b) : rat_Add_R (ng a.num) (ab a.num) (lim a.den) (ng b.num) (ab b.num) (lim b.den) (ng (a + b).num) (ab (a + b).num) (lim (a + b).den) := by
 have z1 := ha.1.mul (zl.nat hb.2)
 have z2 := hb.1.mul (zl.nat ha.2)
 have z3 := (zl.nat ha.2).mul (zl.nat hb.2)
 refine rat_Add_go ⟨_, _, rat_up_is (Nat.le_trans hb.2 (by omega)), _, _, whole_Mul_is (ha.1.mono (by omega)) ((zl.nat hb.2).mono (by omega)), _, _, rat_up_is (Nat.le_trans ha.2 (by omega)), _, _, whole_Mul_is (hb.1.mono (by omega)) ((zl.nat ha.2).mono (by omega)), _, _, whole_Add_is (z1.mono (by omega)) (z2.mono (by omega)), _, _, rat_up_is (Nat.le_trans ha.2 (by omega)), _, _, rat_up_is (Nat.le_trans hb.2 (by omega)), _, _, whole_Mul_is ((zl.nat ha.2).mono (by omega)) ((zl.nat hb.2).mono (by omega)), _, _, _, _, rat_Make_is (den_mul_ne a b) ((z1.add z2).mono (by omega)) (z3.mono (by omega)), ?_⟩
 rw [add_eq]
 exact ⟨rfl, rfl, rfl⟩
theorem rat_Mul_is {a b : Rat} (ha : SZ 10000 a) (hb : SZ 10000 b) : rat_Mul_R (ng a.num) (ab a.num) (lim a.den) (ng b.num) (ab b.num) (lim b.den) (ng (a * b).num) (ab (a * b).num) (lim (a * b).den) := by
 refine rat_Mul_go ⟨_, _, whole_Mul_is (ha.1.mono (by omega)) (hb.1.mono (by omega)), _, _, rat_up_is (Nat.le_trans ha.2 (by omega)), _, _, rat_up_is (Nat.le_trans hb.2 (by omega)), _, _, whole_Mul_is ((zl.nat ha.2).mono (by omega)) ((zl.nat hb.2).mono (by omega)), _, _, _, _, rat_Make_is (den_mul_ne a b) ((ha.1.mul hb.1).mono (by omega)) (((zl.nat ha.2).mul (zl.nat hb.2)).mono (by omega)), ?_⟩
 rw [mul_eq]
 exact ⟨rfl, rfl, rfl⟩
theorem rat_Neg_is {a : Rat} (ha : SZ 10000 a) : rat_Neg_R (ng a.num) (ab a.num) (lim a.den) (ng (-a).num) (ab (-a).num) (lim (-a).den) := rat_Neg_go ⟨_, _, whole_Neg_is (ha.1.mono (by omega)), _, _, rat_up_is (Nat.le_trans ha.2 (by omega)), rfl, rfl, ab_nat _⟩
theorem rat_Sub_is {a b : Rat} (ha : SZ 10000 a) (hb : SZ 10000 b) : rat_Sub_R (ng a.num) (ab a.num) (lim a.den) (ng b.num) (ab b.num) (lim b.den) (ng (a - b).num) (ab (a - b).num) (lim (a - b).den) := by
 rw [Rat.sub_eq_add_neg]
 exact rat_Sub_go ⟨_, _, _, rat_Neg_is hb, _, _, _, rat_Add_is ha hb.neg, rfl, rfl, rfl⟩
theorem num_ne {a : Rat} (h : a ≠ 0) : a.num ≠ 0 := fun h1 => h (Rat.num_eq_zero.1 h1)
theorem rat_Inv_is {a : Rat} (h : a ≠ 0) (ha : SZ 10000 a) : rat_Inv_R (ng a.num) (ab a.num) (lim a.den) (ng (a⁻¹).num) (ab (a⁻¹).num) (lim (a⁻¹).den) 0 := by
 refine rat_Inv_go ⟨_, _, rat_up_is (Nat.le_trans ha.2 (by omega)), _, _, _, _, rat_Make_is (num_ne h) ((zl.nat ha.2).mono (by omega)) (ha.1.mono (by omega)), ?_⟩
 rw [Rat.inv_def]
 exact ⟨rfl, rfl, rfl, rfl⟩
theorem rat_Inv_zero : rat_Inv_R (ng ((0 : Rat)).num) (ab ((0 : Rat)).num) (lim ((0 : Rat)).den) false [] [] 3 := rat_Inv_go ⟨_, _, rat_up_is (d := 1) (Nat.le_trans (lim_len_one (by omega)) (by omega)), _, _, _, _, rat_Make_zero, rfl, rfl, rfl, rfl⟩
theorem SZ.inv {n : Nat} {a : Rat} (h : a ≠ 0) (ha : SZ n a) : SZ n a⁻¹ := by
 rw [Rat.inv_def]
 exact SZ.divInt (num_ne h) (zl.nat ha.2) ha.1
theorem rat_Div_is {a b : Rat} (h : b ≠ 0) (ha : SZ 10000 a) (hb : SZ 10000 b) : rat_Div_R (ng a.num) (ab a.num) (lim a.den) (ng b.num) (ab b.num) (lim b.den) (ng (a / b).num) (ab (a / b).num) (lim (a / b).den) 0 := by
 rw [Rat.div_def]
 exact rat_Div_go ⟨_, _, _, _, rat_Inv_is h hb, .inl ⟨rfl, _, _, _, rat_Mul_is ha (hb.inv h), rfl, rfl, rfl, rfl⟩⟩
theorem rat_Div_zero {a : Rat} : rat_Div_R (ng a.num) (ab a.num) (lim a.den) (ng ((0 : Rat)).num) (ab ((0 : Rat)).num) (lim ((0 : Rat)).den) false [] [] 3 := rat_Div_go ⟨_, _, _, _, rat_Inv_zero, .inr ⟨by omega, rfl, rfl, rfl, rfl⟩⟩
theorem rat_Cmp_is {a b : Rat} (ha : SZ 10000 a) (hb : SZ 10000 b) : rat_Cmp_R (ng a.num) (ab a.num) (lim a.den) (ng b.num) (ab b.num) (lim b.den) (if a < b then -1 else if b < a then 1 else 0) := by
 refine rat_Cmp_go ⟨_, _, rat_up_is (Nat.le_trans hb.2 (by omega)), _, _, whole_Mul_is (ha.1.mono (by omega)) ((zl.nat hb.2).mono (by omega)), _, _, rat_up_is (Nat.le_trans ha.2 (by omega)), _, _, whole_Mul_is (hb.1.mono (by omega)) ((zl.nat ha.2).mono (by omega)), _, whole_Cmp_is ((ha.1.mul (zl.nat hb.2)).mono (by omega)) ((hb.1.mul (zl.nat ha.2)).mono (by omega)), ?_⟩
 simp only [Rat.lt_iff]
theorem rat_Sign_is (a : Rat) : rat_Sign_R (ng a.num) (ab a.num) (lim a.den) (sn a.num) := rat_Sign_go ⟨_, whole_Sign_is a.num, rfl⟩
theorem int_eq {x y : Int} : x = y ↔ ng x = ng y ∧ x.natAbs = y.natAbs := by
 constructor
 ·intro h; subst h; exact ⟨rfl, rfl⟩
 ·intro ⟨h1, h2⟩
  by_cases hx : x < 0 <;> by_cases hy : y < 0
  ·omega
  ·rw [ng_neg hx, ng_pos hy] at h1; cases h1
  ·rw [ng_pos hx, ng_neg hy] at h1; cases h1
  ·omega
theorem cmp_zero {x y : Nat} : ((if x < y then -1 else if y < x then 1 else 0 : Int) = 0) ↔ x = y := by
 constructor
 ·intro h; split at h
  ·omega
  ·split at h <;> omega
 ·intro h; subst h; simp
theorem rat_eq {a b : Rat} : a = b ↔ (ng a.num = ng b.num ∧ a.num.natAbs = b.num.natAbs) ∧ a.den = b.den := by
 rw [← int_eq]
 constructor
 ·intro h; subst h; exact ⟨rfl, rfl⟩
 ·intro h; exact Rat.ext h.1 h.2
theorem rat_Same_is {a b : Rat} (ha : SZ 10000 a) (hb : SZ 10000 b) : rat_Same_R (ng a.num) (ab a.num) (lim a.den) (ng b.num) (ab b.num) (lim b.den) (decide (a = b)) := by
 have h1 := nat_Cmp_is (x := a.num.natAbs) (y := b.num.natAbs) (Nat.le_trans ha.1 (by omega)) (Nat.le_trans hb.1 (by omega))
 have h2 := nat_Cmp_is (x := a.den) (y := b.den) (Nat.le_trans ha.2 (by omega)) (Nat.le_trans hb.2 (by omega))
 refine rat_Same_go ?_
 by_cases ga : a.num < 0 <;> by_cases gb : b.num < 0
 ·refine .inl ⟨ng_neg ga, .inl ⟨ng_neg gb, _, h1, ?_⟩⟩
  by_cases h : a.num.natAbs = b.num.natAbs
  ·refine .inl ⟨cmp_zero.2 h, _, h2, decide_eq_decide.2 ?_⟩
   rw [cmp_zero, rat_eq]; simp [h, ng_neg ga, ng_neg gb]
  ·refine .inr ⟨fun g => h (cmp_zero.1 g), decide_eq_false ?_⟩
   rw [rat_eq]; simp [h]
 ·refine .inl ⟨ng_neg ga, .inr ⟨ng_ne gb, decide_eq_false ?_⟩⟩
  rw [rat_eq]; simp [ng_neg ga, ng_pos gb]
 ·refine .inr ⟨ng_ne ga, .inl ⟨ng_neg gb, decide_eq_false ?_⟩⟩
  rw [rat_eq]; simp [ng_pos ga, ng_neg gb]
 ·refine .inr ⟨ng_ne ga, .inr ⟨ng_ne gb, _, h1, ?_⟩⟩
  by_cases h : a.num.natAbs = b.num.natAbs
  ·refine .inl ⟨cmp_zero.2 h, _, h2, decide_eq_decide.2 ?_⟩
   rw [cmp_zero, rat_eq]; simp [h, ng_pos ga, ng_pos gb]
  ·refine .inr ⟨fun g => h (cmp_zero.1 g), decide_eq_false ?_⟩
   rw [rat_eq]; simp [h]
theorem rat_Of_is {n : Int} (h0 : -9223372036854775808 ≤ n) (h1 : n < 9223372036854775808) : rat_Of_R n (ng ((n : Rat)).num) (ab ((n : Rat)).num) (lim ((n : Rat)).den) := by
 rw [Rat.num_intCast, Rat.den_intCast]
 exact rat_Of_go ⟨_, _, whole_Of_is h0 h1, _, rat_one_go ⟨_, nat_Of_is (n := 1) (by omega), rfl⟩, rfl, rfl, rfl⟩
theorem zl_word {n : Int} (h0 : -9223372036854775808 ≤ n) (h1 : n < 9223372036854775808) : zl 2 n := lim_len.2 (by omega)
theorem SZ_int {n : Int} (h0 : -9223372036854775808 ≤ n) (h1 : n < 9223372036854775808) : SZ 2 (n : Rat) := by
 refine ⟨?_, ?_⟩
 ·rw [Rat.num_intCast]; exact zl_word h0 h1
 ·rw [Rat.den_intCast]; exact Nat.le_trans (lim_len_one (by omega)) (by omega)
theorem rat_One_is {a : Rat} (ha : SZ 10000 a) : rat_One_R (ng a.num) (ab a.num) (lim a.den) (decide (a = 1)) := by
 have h := rat_Of_is (n := 1) (by omega) (by omega)
 have hz := SZ_int (n := 1) (by omega) (by omega)
 exact rat_One_go ⟨_, _, _, h, _, rat_Same_is ha (hz.mono (by omega)), rfl⟩
theorem rat_Frac_is {n d : Int} (hd : d ≠ 0) (h0 : -9223372036854775808 ≤ n) (h1 : n < 9223372036854775808) (g0 : -9223372036854775808 ≤ d) (g1 : d < 9223372036854775808) : rat_Frac_R n d (ng (Rat.divInt n d).num) (ab (Rat.divInt n d).num) (lim (Rat.divInt n d).den) 0 :=
 rat_Frac_go ⟨_, _, whole_Of_is h0 h1, _, _, whole_Of_is g0 g1, _, _, _, _, rat_Make_is hd ((zl_word h0 h1).mono (by omega)) ((zl_word g0 g1).mono (by omega)), rfl, rfl, rfl, rfl⟩
end Go.Proofs.YtjcdkemnflmfiaaGreatA
namespace Go.Proofs.YtjcdkemnflmfiaaGreatA
open Go
def tn (z : Int) : List Int := ten z.natAbs
theorem ten_pos {n : Nat} : (0 < ((ten n).length : Int)) ↔ 0 < n := by
 constructor
 ·intro h
  rcases Nat.eq_zero_or_pos n with rfl | h1
  ·rw [ten_nil.2 rfl] at h; simp at h
  ·exact h1
 ·intro h
  have : (ten n).length ≠ 0 := fun h1 => by have := ten_nil.1 (List.length_eq_zero_iff.1 h1); omega
  omega
theorem rmade_is {b : Bool} {n : Nat} {z : Int} (hz : z = sg b n) : ref07_made_R b (ten n) (ng z) (tn z) := by
 refine ref07_made_go ?_
 subst hz
 have e : ∀ m : Int, m.natAbs = n → ten m.natAbs = ten n := fun m h => by rw [h]
 cases b with
 | true => exact .inl ⟨rfl, decide_eq_decide.2 (by rw [ten_pos]; simp [sg]), e _ (by simp [sg])⟩
 | false => exact .inr ⟨by simp, ng_pos (by simp [sg]), e _ (by simp [sg])⟩
theorem sg_self (x : Int) : x = sg (ng x) x.natAbs := by
 by_cases h : x < 0
 ·rw [sg_neg h]; omega
 ·rw [sg_pos h]; omega
theorem tenl {n : Nat} {x : Nat} (h : (lim x).length ≤ 100000) : (ten x).length ≤ 300000 := Nat.le_trans (ten_of_lim h) (by omega)
theorem ref07_Of_is {x : Int} (hx : zl 100000 x) : ref07_Of_R (ng x) (ab x) (ng x) (tn x) := by
 have hx' : (lim x.natAbs).length ≤ 100000 := hx
 have h1 := tenl (n := 0) hx'
 exact ref07_Of_go ⟨_, ref_Of_is (by omega) (by omega), _, _, rmade_is (sg_self x), rfl, rfl⟩
theorem ref07_Back_is {x : Int} (hx : zl 100000 x) : ref07_Back_R (ng x) (tn x) (ng x) (ab x) := by
 have hx' : (lim x.natAbs).length ≤ 100000 := hx
 have h1 := tenl (n := 0) hx'
 exact ref07_Back_go ⟨_, ref_Back_is (by omega) (by omega), rfl, rfl⟩
theorem ref08_Low_is {n : Int} {d : Nat} (hd : d ≠ 0) (hn : zl 100000 n) (hdl : (lim d).length ≤ 100000) : ref08_Low_R (ng n) (tn n) (ten d) (ng (Rat.normalize n d hd).num) (tn (Rat.normalize n d hd).num) (ten (Rat.normalize n d hd).den) := by
 have h1 := tenl (n := 0) hn
 have h2 := tenl (n := 0) hdl
 have hg : 0 < Nat.gcd n.natAbs d := Nat.gcd_pos_of_pos_right _ (by omega)
 have hgl : (ten (Nat.gcd n.natAbs d)).length ≤ 100000000 := Nat.le_trans (ten_len_mono (Nat.gcd_le_right _ (by omega))) (by omega)
 refine ref08_Low_go ⟨_, ref_Gcd_is (by omega) (by omega), _, _, ref_Div_is (by omega) hgl hg, _, _, ref_Div_is (by omega) hgl hg, ?_⟩
 have e1 : tn (Rat.normalize n d hd).num = ten (n.natAbs / Nat.gcd n.natAbs d) := by rw [tn, norm_natAbs]
 have e2 : ten (Rat.normalize n d hd).den = ten (d / Nat.gcd n.natAbs d) := by rw [Rat.den_normalize]
 have e3 := norm_num n d hd
 by_cases h : n < 0
 ·refine .inl ⟨ng_neg h, ?_, e1, e2⟩
  rw [e3, sg_neg h]
  refine decide_eq_decide.2 ?_
  rw [ten_pos]; omega
 ·refine .inr ⟨ng_ne h, ?_, e1, e2⟩
  rw [e3, sg_pos h, ng_nat]
theorem ref08_Back_is {a : Rat} (ha : SZ 100000 a) : ref08_Back_R (ng a.num) (tn a.num) (ten a.den) (ng a.num) (ab a.num) (lim a.den) := by
 have h2 := tenl (n := 0) ha.2
 have h3 := ha.2
 exact ref08_Back_go ⟨_, _, ref07_Back_is ha.1, _, ref_Back_is (by omega) (by omega), rfl, rfl, rfl⟩
theorem num_lt0 (a : Rat) : a.num < 0 ↔ a < 0 := by
 rw [Rat.lt_iff]; simp
theorem ref07_Clean_is {b : Bool} {l : List Int} (hw : ∀ x ∈ l, 0 ≤ x) {n : Nat} (hn : n ≤ 1000) (hs : l.length ≤ 9223372036854775807) : ∃ z : Int, ref07_Clean_R b l (n : Int) (ng z) (ab z) ∧ zl n z := by
 refine ⟨sg b (cleaned l n), ref07_Clean_go ⟨_, ref_Clean_is hw hn hs, ?_⟩, ?_⟩
 ·cases b with
  | true => exact .inl ⟨rfl, decide_eq_decide.2 (by rw [lim_pos]; simp [sg]), by simp [ab, sg]⟩
  | false => exact .inr ⟨by simp, ng_pos (by simp [sg]), by simp [ab, sg]⟩
 ·have : ab (sg b (cleaned l n)) = lim (cleaned l n) := by cases b <;> simp [ab, sg]
  unfold zl
  rw [this]; exact cleaned_len l n
theorem ref08_Clean_is {b : Bool} {l m : List Int} (hl : ∀ x ∈ l, 0 ≤ x) (hm : ∀ x ∈ m, 0 ≤ x) {n : Nat} (hn : n ≤ 1000) (hn1 : 1 ≤ n) (hs : l.length ≤ 9223372036854775807) (hs' : m.length ≤ 9223372036854775807) : ∃ q : Rat, ref08_Clean_R b l m (n : Int) (ng q.num) (ab q.num) (lim q.den) ∧ SZ n q := by
 obtain ⟨z, hz, hzl⟩ := ref07_Clean_is (b := b) hl hn hs
 have hzl' := hzl.mono (show n ≤ 100000 by omega)
 have hml := cleaned_len m n
 by_cases h : cleaned m n = 0
 ·have h1 : (lim 1).length ≤ n := Nat.le_trans (lim_len_one (by omega)) hn1
  have hq := SZ.normalize (d := 1) (by omega) hzl h1
  refine ⟨Rat.normalize z 1, ref08_Clean_go ⟨_, ref_Clean_is hm hn hs', .inl ⟨by rw [h, lim_nil.2 rfl]; rfl, _, _, hz, _, _, ref07_Of_is hzl', _, ?_, _, _, _, ref08_Low_is (d := 1) (by omega) hzl' (by omega), _, _, _, ref08_Back_is (hq.mono (by omega)), rfl, rfl, rfl⟩⟩, hq⟩
  have := ref_Of_is (x := 1) (by omega) (Nat.le_trans (tenl (n := 0) (by omega)) (by omega))
  rwa [show lim 1 = [((1 : Nat) : Int)] from digs_one (by omega) (by omega) (by omega)] at this
 ·have hq := SZ.normalize h hzl hml
  have h2 := tenl (n := 0) (x := cleaned m n) (by omega)
  refine ⟨Rat.normalize z (cleaned m n) h, ref08_Clean_go ⟨_, ref_Clean_is hm hn hs', .inr ⟨?_, _, _, hz, _, _, ref07_Of_is hzl', _, ref_Of_is (by omega) (by omega), _, _, _, ref08_Low_is h hzl' (by omega), _, _, _, ref08_Back_is (hq.mono (by omega)), rfl, rfl, rfl⟩⟩, hq⟩
  have := lim_pos (n := cleaned m n)
  omega
end Go.Proofs.YtjcdkemnflmfiaaGreatA
namespace Go.Proofs.YtjcdkemnflmfiaaGreatA
open Go
def fQ (q : Rat) : T_api_Rat := (ng q.num, ab q.num, lim q.den)
theorem map_getD {α β : Type} {f : α → β} {l : List α} {i : Nat} (h : i < l.length) (d : β) (e : α) : (l.map f).getD i d = f (l.getD i e) := by
 rw [List.getD_eq_getElem?_getD, List.getD_eq_getElem?_getD, List.getElem?_map, List.getElem?_eq_getElem h]; rfl
theorem getD_fQ {qs : List Rat} {i : Nat} (h : i < qs.length) (d : T_api_Rat) : (qs.map fQ).getD i d = (ng (qs.getD i 0).num, ab (qs.getD i 0).num, lim (qs.getD i 0).den) := map_getD h d 0
def AZ (n : Nat) (qs : List Rat) : Prop := ∀ q ∈ qs, SZ n q
theorem getD_mem {qs : List Rat} {i : Nat} (h : i < qs.length) : qs.getD i 0 ∈ qs := by
 rw [List.getD_eq_getElem?_getD, List.getElem?_eq_getElem h]; exact List.getElem_mem h
theorem AZ.get {n i : Nat} {qs : List Rat} (h : AZ n qs) (hi : i < qs.length) : SZ n (qs.getD i 0) := h _ (getD_mem hi)
theorem AZ.mono {m n : Nat} {qs : List Rat} (h : AZ m qs) (hmn : m ≤ n) : AZ n qs := fun q hq => (h q hq).mono hmn
theorem drop_getD {qs : List Rat} {i : Nat} (h : i < qs.length) : qs.drop i = qs.getD i 0 :: qs.drop (i + 1) := by
 rw [List.drop_eq_getElem_cons h, List.getD_eq_getElem?_getD, List.getElem?_eq_getElem h]; rfl
theorem SZ.add2 {m n : Nat} {a b : Rat} (ha : SZ m a) (hb : SZ n b) : SZ (m + n + 1) (a + b) := by
 rw [add_eq]
 exact SZ.divInt (den_mul_ne a b) ((ha.1.mul (zl.nat hb.2)).add ((hb.1.mul (zl.nat ha.2)).mono (show n + m ≤ m + n by omega))) (((zl.nat ha.2).mul (zl.nat hb.2)).mono (by omega))
theorem SZ.mul2 {m n : Nat} {a b : Rat} (ha : SZ m a) (hb : SZ n b) : SZ (m + n) (a * b) := by
 rw [mul_eq]
 exact SZ.divInt (den_mul_ne a b) (ha.1.mul hb.1) ((zl.nat ha.2).mul (zl.nat hb.2))
theorem SZ.div2 {m n : Nat} {a b : Rat} (h : b ≠ 0) (ha : SZ m a) (hb : SZ n b) : SZ (m + n) (a / b) := by
 rw [Rat.div_def]; exact ha.mul2 (hb.inv h)
theorem SZ0 : SZ 1 (0 : Rat) := ⟨lim_len_one (by decide), lim_len_one (by decide)⟩
theorem SZ1 : SZ 1 (1 : Rat) := ⟨lim_len_one (by decide), lim_len_one (by decide)⟩
theorem rat_Of0 : rat_Of_R 0 (ng ((0 : Rat)).num) (ab ((0 : Rat)).num) (lim ((0 : Rat)).den) := by
 have := rat_Of_is (n := 0) (by omega) (by omega)
 rwa [Rat.intCast_zero] at this
theorem rat_Of1 : rat_Of_R 1 (ng ((1 : Rat)).num) (ab ((1 : Rat)).num) (lim ((1 : Rat)).den) := by
 have := rat_Of_is (n := 1) (by omega) (by omega)
 rwa [Rat.intCast_one] at this
theorem fold_Not_is {a : Rat} (ha : SZ 10000 a) : fold_Not_R (ng a.num) (ab a.num) (lim a.den) (ng (1 - a).num) (ab (1 - a).num) (lim (1 - a).den) := fold_Not_go ⟨_, _, _, rat_Of1, _, _, _, rat_Sub_is (SZ1.mono (by omega)) ha, rfl, rfl, rfl⟩
theorem sn_lt (a : Rat) : sn a.num < 0 ↔ a < 0 := by
 rw [← num_lt0]; unfold sn; split
 ·omega
 ·split <;> omega
theorem cmp_pos {a b : Rat} : 0 < (if a < b then -1 else if b < a then 1 else 0 : Int) ↔ b < a := by
 by_cases h : a < b
 ·rw [if_pos h]; constructor <;> intro g <;> grind
 ·rw [if_neg h]; split <;> simp_all
def Unit (q : Rat) : Prop := ¬ q < 0 ∧ ¬ 1 < q
instance (q : Rat) : Decidable (Unit q) := inferInstanceAs (Decidable (_ ∧ _))
theorem all_drop {P : Rat → Prop} {qs : List Rat} {i : Nat} (h : i < qs.length) : (∀ q ∈ qs.drop i, P q) ↔ P (qs.getD i 0) ∧ ∀ q ∈ qs.drop (i + 1), P q := by
 rw [drop_getD h, List.forall_mem_cons]
end Go.Proofs.YtjcdkemnflmfiaaGreatA
namespace Go.Proofs.YtjcdkemnflmfiaaGreatA
open Go
def sumQ (s : Rat) (qs : List Rat) : Rat := qs.foldl (· + ·) s
theorem sumQ_cons (s q : Rat) (qs : List Rat) : sumQ s (q :: qs) = sumQ (s + q) qs := rfl
theorem SZ.sum {c : Nat} : ∀ {qs : List Rat} {m : Nat} {s : Rat}, AZ c qs → SZ m s → SZ (m + qs.length * (c + 1)) (sumQ s qs)
 | [], m, s, _, hs => hs.mono (by omega)
 | q :: qs, m, s, h, hs => by
  have := SZ.sum (qs := qs) (m := m + c + 1) (fun p hp => h p (List.mem_cons_of_mem _ hp)) (hs.add2 (h q (List.mem_cons_self ..)))
  refine this.mono ?_
  rw [List.length_cons, Nat.add_mul]; omega
def Fits (qs : List Rat) : Prop := ∃ c, AZ c qs ∧ 2 + qs.length * (c + 1) ≤ 900
theorem Fits.tail {i : Nat} {qs : List Rat} (h : i < qs.length) {m : Nat} {s : Rat} {c : Nat} (hz : AZ c qs) (hs : SZ m s) (hm : m + (qs.length - i) * (c + 1) ≤ 900) : SZ 10000 s ∧ SZ 10000 (qs.getD i 0) ∧ SZ (m + c + 1) (s + qs.getD i 0) ∧ SZ (m + c + 1) (s * qs.getD i 0) ∧ m + c + 1 + (qs.length - (i + 1)) * (c + 1) ≤ 900 := by
 obtain ⟨k, hk⟩ : ∃ k, qs.length - i = k + 1 := ⟨qs.length - i - 1, by omega⟩
 have hk' : qs.length - (i + 1) = k := by omega
 rw [hk, Nat.add_mul] at hm
 have hi := hz.get h
 refine ⟨hs.mono (by omega), hi.mono (by omega), hs.add2 hi, (hs.mul2 hi).mono (by omega), ?_⟩
 rw [hk']; omega
theorem fold_Sum_loop {qs : List Rat} {c : Nat} (hz : AZ c qs) (hl : qs.length ≤ 1000000) {u : Bool} (d : Nat) : ∀ (i m : Nat) (s : Rat), i + d = qs.length → SZ m s → m + (qs.length - i) * (c + 1) ≤ 900 →
  fold_Sum_l0 (qs.map fQ) ((qs.map fQ).length : Int) (i : Int) u (ng s.num) (ab s.num) (lim s.den) (ng (sumQ s (qs.drop i)).num) (ab (sumQ s (qs.drop i)).num) (lim (sumQ s (qs.drop i)).den) := by
 have hL : (qs.map fQ).length = qs.length := List.length_map _
 induction d with
 | zero =>
  intro i m s hi hs hm
  rw [List.drop_of_length_le (by omega)]
  exact fold_Sum_l0_go (.inr ⟨by omega, rfl, rfl, rfl⟩)
 | succ d ih =>
  intro i m s hi hs hm
  have h : i < qs.length := by omega
  obtain ⟨t1, t2, t3, _, t4⟩ := Fits.tail h hz hs hm
  refine fold_Sum_l0_go (.inl ⟨by omega, by omega, by omega, _, _, _, getD_fQ h _, _, _, _, rat_Add_is t1 t2, ?_⟩)
  rw [w_succ (by omega), drop_getD h, sumQ_cons]
  exact ih (i + 1) _ _ (by omega) t3 t4
theorem fold_Sum_is {qs : List Rat} (h : Fits qs) : fold_Sum_R (qs.map fQ) (ng (sumQ 0 qs).num) (ab (sumQ 0 qs).num) (lim (sumQ 0 qs).den) := by
 obtain ⟨c, hz, hc⟩ := h
 have hq : qs.length ≤ qs.length * (c + 1) := Nat.le_mul_of_pos_right _ (by omega)
 exact fold_Sum_go ⟨_, _, _, rat_Of0, fold_Sum_loop hz (by omega) qs.length 0 1 0 (by omega) SZ0 (by rw [Nat.sub_zero]; omega)⟩
theorem fold_Sum_S_loop {cb : Nat → Blk} {ver : Nat} {qs : List Rat} {c : Nat} (hz : AZ c qs) (hl : qs.length ≤ 1000000) {u : Bool} (d : Nat) : ∀ (i m : Nat) (s : Rat), i + d = qs.length → SZ m s → m + (qs.length - i) * (c + 1) ≤ 900 →
  fold_Sum_S_l1 cb ver ((qs.map fQ).length : Int) (i : Int) (qs.map fQ) u (ng s.num) (ab s.num) (lim s.den) (ng (sumQ s (qs.drop i)).num) (ab (sumQ s (qs.drop i)).num) (lim (sumQ s (qs.drop i)).den) (qs.map fQ) := by
 have hL : (qs.map fQ).length = qs.length := List.length_map _
 induction d with
 | zero =>
  intro i m s hi hs hm
  rw [List.drop_of_length_le (by omega)]
  exact fold_Sum_S_l1_go (.inr ⟨by omega, rfl, rfl, rfl, rfl⟩)
 | succ d ih =>
  intro i m s hi hs hm
  have h : i < qs.length := by omega
  obtain ⟨t1, t2, t3, _, t4⟩ := Fits.tail h hz hs hm
  refine fold_Sum_S_l1_go (.inl ⟨by omega, by omega, by omega, _, _, _, getD_fQ h _, _, _, _, rat_Add_is t1 t2, ?_⟩)
  rw [w_succ (by omega), drop_getD h, sumQ_cons]
  exact ih (i + 1) _ _ (by omega) t3 t4
theorem fold_Sum_S_is {qs : List Rat} (h : Fits qs) : fold_Sum_S_R (qs.map fQ) (ng (sumQ 0 qs).num) (ab (sumQ 0 qs).num) (lim (sumQ 0 qs).den) (qs.map fQ) := by
 obtain ⟨c, hz, hc⟩ := h
 have hq : qs.length ≤ qs.length * (c + 1) := Nat.le_mul_of_pos_right _ (by omega)
 have hL : (qs.map fQ).length = qs.length := List.length_map _
 refine fold_Sum_S_go fun cb ver => ⟨_, _, _, rat_Of0, ?_⟩
 rcases Nat.eq_zero_or_pos qs.length with h0 | h0
 ·have := List.length_eq_zero_iff.1 h0
  subst this
  exact fold_Sum_S_l0_go (.inr ⟨by omega, rfl, rfl, rfl, rfl⟩)
 ·obtain ⟨t1, t2, t3, _, t4⟩ := Fits.tail h0 hz SZ0 (by rw [Nat.sub_zero]; omega)
  refine fold_Sum_S_l0_go (.inl ⟨by omega, by omega, by omega, _, _, _, getD_fQ h0 _, _, _, _, rat_Add_is t1 t2, ?_⟩)
  have := fold_Sum_S_loop (cb := cb) (ver := ver) hz (by omega) (u := false) (qs.length - 1) 1 _ _ (by omega) t3 t4
  rw [s64i (n := 0 + 1) (by omega) (by omega)]
  rw [show sumQ 0 qs = sumQ (0 + qs.getD 0 0) (qs.drop 1) by rw [← sumQ_cons, ← drop_getD h0]; rfl]
  exact this
theorem fold_Whole_loop {qs : List Rat} (hz : Fits qs) (hl : qs.length ≤ 1000000) (d : Nat) : ∀ i : Nat, i + d = qs.length →
  fold_Whole_l0 (qs.map fQ) (qs.map fQ) ((qs.map fQ).length : Int) (i : Int) (decide ((∀ q ∈ qs.drop i, Unit q) ∧ sumQ 0 qs = 1)) := by
 have hL : (qs.map fQ).length = qs.length := List.length_map _
 obtain ⟨c, hc, hcc⟩ := hz
 have hzz := SZ.sum hc SZ0
 induction d with
 | zero =>
  intro i hi
  refine fold_Whole_l0_go (.inr ⟨by omega, _, _, _, fold_Sum_is ⟨c, hc, hcc⟩, _, rat_One_is (hzz.mono (by omega)), decide_eq_decide.2 ?_⟩)
  rw [List.drop_of_length_le (by omega)]
  simp
 | succ d ih =>
  intro i hi
  have h : i < qs.length := by omega
  have hq : c + 1 ≤ qs.length * (c + 1) := Nat.le_mul_of_pos_left _ (by omega)
  have hi' := (hc.get h).mono (show c ≤ 10000 by omega)
  refine fold_Whole_l0_go (.inl ⟨by omega, by omega, by omega, _, _, _, getD_fQ h _, _, rat_Sign_is _, ?_⟩)
  rw [w_succ (by omega)]
  by_cases h1 : qs.getD i 0 < 0
  ·refine .inl ⟨(sn_lt _).2 h1, decide_eq_false fun g => ?_⟩
   exact ((all_drop h).1 g.1).1.1 h1
  ·refine .inr ⟨fun g => h1 ((sn_lt _).1 g), _, _, _, rat_Of1, _, rat_Cmp_is hi' (SZ1.mono (by omega)), ?_⟩
   by_cases h2 : 1 < qs.getD i 0
   ·refine .inl ⟨cmp_pos.2 h2, decide_eq_false fun g => ?_⟩
    exact ((all_drop h).1 g.1).1.2 h2
   ·refine .inr ⟨fun g => h2 (cmp_pos.1 g), ?_⟩
    have e : ((∀ q ∈ qs.drop i, Unit q) ∧ sumQ 0 qs = 1) ↔ ((∀ q ∈ qs.drop (i + 1), Unit q) ∧ sumQ 0 qs = 1) := by
     rw [all_drop h]
     exact ⟨fun g => ⟨g.1.2, g.2⟩, fun g => ⟨⟨⟨h1, h2⟩, g.1⟩, g.2⟩⟩
    rw [decide_eq_decide.2 e]
    exact ih (i + 1) (by omega)
theorem Fits.len {qs : List Rat} (h : Fits qs) : qs.length ≤ 900 := by
 obtain ⟨c, hz, hc⟩ := h
 have hq : qs.length ≤ qs.length * (c + 1) := Nat.le_mul_of_pos_right _ (by omega)
 omega
theorem fold_Whole_is {qs : List Rat} (h : Fits qs) : fold_Whole_R (qs.map fQ) (decide ((∀ q ∈ qs, Unit q) ∧ sumQ 0 qs = 1)) := by
 have := h.len
 exact fold_Whole_go (fold_Whole_loop h (by omega) qs.length 0 (by omega))
end Go.Proofs.YtjcdkemnflmfiaaGreatA
namespace Go.Proofs.YtjcdkemnflmfiaaGreatA
open Go
def Rgt (qs : List Rat) : Prop := qs.length ≤ 8 ∧ ∀ q ∈ qs, Unit q
instance (qs : List Rat) : Decidable (Rgt qs) := inferInstanceAs (Decidable (_ ∧ _))
theorem fail_right1 {a : Rat} (ha : SZ 10000 a) : fail_right_1_R (ng a.num) (ab a.num) (lim a.den) (decide (¬ Unit a)) := by
 refine fail_right_1_go ⟨_, rat_Sign_is a, ?_⟩
 by_cases h1 : a < 0
 ·exact .inl ⟨(sn_lt a).2 h1, decide_eq_true fun g => g.1 h1⟩
 ·refine .inr ⟨fun g => h1 ((sn_lt a).1 g), _, _, _, rat_Of1, _, rat_Cmp_is ha (SZ1.mono (by omega)), decide_eq_decide.2 ?_⟩
  rw [cmp_pos]
  constructor
  ·intro g
   by_cases h2 : 1 < a
   ·exact h2
   ·exact absurd ⟨h1, h2⟩ g
  ·intro g k; exact k.2 g
theorem fail_index_loop {qs : List Rat} (hz : AZ 10000 qs) (hl : qs.length ≤ 1000000) (d : Nat) : ∀ i : Nat, i + d = qs.length →
  ∃ z : Int, slices_IndexFunc___api_Rat_api_Rat__v0_l0 (qs.map fQ) ((qs.map fQ).length : Int) (i : Int) z ∧ (0 ≤ z ↔ ¬ ∀ q ∈ qs.drop i, Unit q) := by
 have hL : (qs.map fQ).length = qs.length := List.length_map _
 induction d with
 | zero =>
  intro i hi
  refine ⟨-1, slices_IndexFunc___api_Rat_api_Rat__v0_l0_go (.inr ⟨by omega, rfl⟩), ?_⟩
  rw [List.drop_of_length_le (by omega)]
  simp
 | succ d ih =>
  intro i hi
  have h : i < qs.length := by omega
  have hc := fail_right1 (hz.get h)
  by_cases hu : Unit (qs.getD i 0)
  ·obtain ⟨z, h1, h2⟩ := ih (i + 1) (by omega)
   refine ⟨z, slices_IndexFunc___api_Rat_api_Rat__v0_l0_go (.inl ⟨by omega, by omega, by omega, _, _, _, getD_fQ h _, _, hc, .inr ⟨by rw [decide_eq_true_iff]; exact fun g => g hu, by rw [w_succ (by omega)]; exact h1⟩⟩), ?_⟩
   rw [h2, all_drop h]
   constructor
   ·intro g k; exact g k.2
   ·intro g k; exact g ⟨hu, k⟩
  ·refine ⟨(i : Int), slices_IndexFunc___api_Rat_api_Rat__v0_l0_go (.inl ⟨by omega, by omega, by omega, _, _, _, getD_fQ h _, _, hc, .inl ⟨decide_eq_true hu, rfl⟩⟩), ?_⟩
   rw [all_drop h]
   constructor
   ·intro _ k; exact hu k.1
   ·intro _; omega
theorem fail_right_is {qs : List Rat} (hz : AZ 10000 qs) (hl : qs.length ≤ 1000000) : fail_right_R (qs.map fQ) (if Rgt qs then 0 else 2) := by
 have hL : (qs.map fQ).length = qs.length := List.length_map _
 refine fail_right_go ?_
 by_cases h8 : 8 < qs.length
 ·rw [if_neg (fun g => by have := g.1; omega)]
  exact .inl ⟨by omega, rfl⟩
 ·obtain ⟨z, h1, h2⟩ := fail_index_loop hz hl qs.length 0 (by omega)
  rw [List.drop_zero] at h2
  refine .inr ⟨by omega, _, slices_ContainsFunc___api_Rat_api_Rat__v0_go ⟨_, slices_IndexFunc___api_Rat_api_Rat__v0_go h1, rfl⟩, ?_⟩
  by_cases hu : ∀ q ∈ qs, Unit q
  ·rw [if_pos ⟨by omega, hu⟩]
   exact .inr ⟨by rw [decide_eq_true_iff, h2]; exact fun g => g hu, rfl⟩
  ·rw [if_neg (fun g => hu g.2)]
   exact .inl ⟨by rw [decide_eq_true_iff, h2]; exact hu, rfl⟩
def chQ (s : Rat) : List Rat → Nat → Rat
 | [], _ => s
 | q :: qs, n => chQ (s * (if n % 2 = 1 then 1 - q else q)) qs (n / 2)
theorem SZ.not {q : Rat} (h : SZ 1 q) : SZ 3 (1 - q) := (SZ1.sub h).mono (by omega)
theorem ch_step {n : Nat} {q : Rat} (h : SZ 1 q) : SZ 3 (if n % 2 = 1 then 1 - q else q) := by
 split
 ·exact h.not
 ·exact h.mono (by omega)
theorem SZ.ch : ∀ {qs : List Rat} {m n : Nat} {s : Rat}, AZ 1 qs → SZ m s → SZ (m + qs.length * 3) (chQ s qs n)
 | [], m, n, s, _, hs => hs.mono (by omega)
 | q :: qs, m, n, s, h, hs => by
  have := SZ.ch (qs := qs) (m := m + 3) (n := n / 2) (fun p hp => h p (List.mem_cons_of_mem _ hp)) (hs.mul2 (ch_step (n := n) (h q (List.mem_cons_self ..))))
  refine this.mono ?_
  rw [List.length_cons, Nat.add_mul]; omega
theorem bit_test (n i : Nat) (hn : n < 18446744073709551616) (hi : i < 64) : (Go.bits .and .u64 ((n : Int) / 2 ^ (min i 64)) 1) = ((n / 2 ^ i % 2 : Nat) : Int) := by
 have e : (n : Int) / 2 ^ (min i 64) = ((n / 2 ^ i : Nat) : Int) := by rw [Nat.min_eq_left (by omega), Int.natCast_ediv, Int.natCast_pow]; rfl
 have hd := Nat.div_le_self n (2 ^ i)
 rw [e]
 generalize n / 2 ^ i = m at hd ⊢
 rw [and1 (by omega) (by omega)]
 omega
theorem fail_chance_loop {qs : List Rat} (hz : AZ 1 qs) (hl : qs.length ≤ 20) {n : Nat} (hn : n < 18446744073709551616) {u : Bool} (d : Nat) : ∀ (i m : Nat) (s : Rat), i + d = qs.length → SZ m s → m + (qs.length - i) * 3 ≤ 900 →
  fail_chance_l0 (n : Int) (qs.map fQ) ((qs.map fQ).length : Int) (i : Int) u (ng s.num) (ab s.num) (lim s.den) (ng (chQ s (qs.drop i) (n / 2 ^ i)).num) (ab (chQ s (qs.drop i) (n / 2 ^ i)).num) (lim (chQ s (qs.drop i) (n / 2 ^ i)).den) := by
 have hL : (qs.map fQ).length = qs.length := List.length_map _
 induction d with
 | zero =>
  intro i m s hi hs hm
  rw [List.drop_of_length_le (by omega)]
  exact fail_chance_l0_go (.inr ⟨by omega, rfl, rfl, rfl⟩)
 | succ d ih =>
  intro i m s hi hs hm
  have h : i < qs.length := by omega
  have hq := hz.get h
  have hm2 : m + 3 + (qs.length - (i + 1)) * 3 ≤ 900 := by omega
  have key := ih (i + 1) (m + 3) _ (by omega) (hs.mul2 (ch_step (n := n / 2 ^ i) hq)) hm2
  rw [show n / 2 ^ (i + 1) = n / 2 ^ i / 2 by rw [Nat.pow_succ, Nat.div_div_eq_div_mul]] at key
  refine fail_chance_l0_go (.inl ⟨by omega, by omega, by omega, _, _, _, getD_fQ h _, ?_⟩)
  rw [Int.toNat_natCast, bit_test n i hn (by omega), w_succ (by omega), drop_getD h, chQ]
  by_cases hb : n / 2 ^ i % 2 = 1
  ·rw [if_pos hb] at key ⊢
   exact .inl ⟨by omega, _, _, _, fold_Not_is (hq.mono (by omega)), _, _, _, rat_Mul_is (hs.mono (by omega)) (hq.not.mono (by omega)), key⟩
  ·rw [if_neg hb] at key ⊢
   exact .inr ⟨by omega, _, _, _, rat_Mul_is (hs.mono (by omega)) (hq.mono (by omega)), key⟩
theorem fail_chance_is {qs : List Rat} (hz : AZ 1 qs) (hl : qs.length ≤ 20) {n : Nat} (hn : n < 18446744073709551616) : fail_chance_R (qs.map fQ) (n : Int) (ng (chQ 1 qs n).num) (ab (chQ 1 qs n).num) (lim (chQ 1 qs n).den) := by
 have := fail_chance_loop hz hl hn (u := false) qs.length 0 1 1 (by omega) SZ1 (by omega)
 rw [Nat.pow_zero, Nat.div_one] at this
 exact fail_chance_go ⟨_, _, _, rat_Of1, this⟩
def fC (x : Nat × Rat) : T_fail_Case := ((x.1 : Int), ng x.2.num, ab x.2.num, lim x.2.den)
theorem getD_fC {cs : List (Nat × Rat)} {i : Nat} (h : i < cs.length) (d : T_fail_Case) : (cs.map fC).getD i d = (((cs.getD i (0, 0)).1 : Int), ng (cs.getD i (0, 0)).2.num, ab (cs.getD i (0, 0)).2.num, lim (cs.getD i (0, 0)).2.den) := map_getD h d (0, 0)
def casesTo (qs : List Rat) (k : Nat) : List (Nat × Rat) := ((List.range k).filter fun n => chQ 1 qs n ≠ 0).map fun n => (n, chQ 1 qs n)
theorem casesTo_succ (qs : List Rat) (k : Nat) : casesTo qs (k + 1) = if chQ 1 qs k = 0 then casesTo qs k else casesTo qs k ++ [(k, chQ 1 qs k)] := by
 unfold casesTo
 rw [List.range_succ, List.filter_append, List.map_append]
 by_cases h : chQ 1 qs k = 0
 ·rw [if_pos h]; simp [h]
 ·rw [if_neg h]; simp [h]
theorem casesTo_len (qs : List Rat) (k : Nat) : (casesTo qs k).length ≤ k := by
 unfold casesTo
 rw [List.length_map]
 exact Nat.le_trans (List.length_filter_le ..) (by rw [List.length_range]; exact Nat.le_refl _)
theorem sn_zero (a : Rat) : sn a.num = 0 ↔ a = 0 := by
 rw [← Rat.num_eq_zero]; unfold sn; split
 ·omega
 ·split <;> omega
theorem fail_All_loop {qs : List Rat} (hz : AZ 1 qs) (hl : qs.length ≤ 8) (d : Nat) : ∀ k : Nat, k + d = 2 ^ qs.length →
  (casesTo qs k = [] → fail_All_l0 (qs.map fQ) ((2 ^ qs.length : Nat) : Int) (k : Int) ((casesTo qs (2 ^ qs.length)).map fC) 0) ∧
  fail_All_l1 (qs.map fQ) ((2 ^ qs.length : Nat) : Int) (k : Int) ((casesTo qs k).map fC) ((casesTo qs (2 ^ qs.length)).map fC) 0 := by
 have hp : 2 ^ qs.length ≤ 2 ^ 8 := Nat.pow_le_pow_right (by omega) hl
 induction d with
 | zero =>
  intro k hk
  obtain rfl : k = 2 ^ qs.length := by omega
  refine ⟨fun h => ?_, fail_All_l1_go (.inr ⟨by omega, rfl, rfl⟩)⟩
  rw [h]
  exact fail_All_l0_go (.inr ⟨by omega, rfl, rfl⟩)
 | succ d ih =>
  intro k hk
  have hw : wu (k : Int) = (k : Int) := w64i (by omega) (by omega)
  have hc := fail_chance_is hz (by omega) (n := k) (by omega)
  have hs := rat_Sign_is (chQ 1 qs k)
  obtain ⟨i1, i2⟩ := ih (k + 1) (by omega)
  have hcl := casesTo_len qs k
  have hL : ((casesTo qs k).map fC).length = (casesTo qs k).length := List.length_map _
  by_cases h : chQ 1 qs k = 0
  ·rw [casesTo_succ, if_pos h] at i1 i2
   refine ⟨fun h0 => fail_All_l0_go (.inl ⟨by omega, _, _, _, by rw [hw]; exact hc, _, hs, .inl ⟨(sn_zero _).2 h, ?_⟩⟩), fail_All_l1_go (.inl ⟨by omega, _, _, _, by rw [hw]; exact hc, _, hs, .inl ⟨(sn_zero _).2 h, ?_⟩⟩)⟩
   ·rw [w_succ (by omega)]; exact i1 h0
   ·rw [w_succ (by omega)]; exact i2
  ·rw [casesTo_succ, if_neg h] at i2
   refine ⟨fun h0 => fail_All_l0_go (.inl ⟨by omega, _, _, _, by rw [hw]; exact hc, _, hs, .inr ⟨fun g => h ((sn_zero _).1 g), by omega, ([(k, chQ 1 qs k)] : List (Nat × Rat)).map fC, by rw [hw]; rfl, ?_⟩⟩), fail_All_l1_go (.inl ⟨by omega, _, _, _, by rw [hw]; exact hc, _, hs, .inr ⟨fun g => h ((sn_zero _).1 g), by omega, (casesTo qs k ++ [(k, chQ 1 qs k)]).map fC, by rw [hw, List.map_append]; rfl, ?_⟩⟩)⟩
   ·rw [w_succ (by omega)]
    rw [h0, List.nil_append] at i2
    exact i2
   ·rw [w_succ (by omega)]; exact i2
theorem fail_All_is {qs : List Rat} (hz : AZ 1 qs) (hl : qs.length ≤ 20) : (Rgt qs → fail_All_R (qs.map fQ) ((casesTo qs (2 ^ qs.length)).map fC) 0) ∧ (¬ Rgt qs → fail_All_R (qs.map fQ) [] 2) := by
 have hL : (qs.map fQ).length = qs.length := List.length_map _
 have hr := fail_right_is (hz.mono (show 1 ≤ 10000 by omega)) (by omega)
 refine ⟨fun h => ?_, fun h => ?_⟩
 ·rw [if_pos h] at hr
  have hp : 2 ^ qs.length ≤ 2 ^ 8 := Nat.pow_le_pow_right (by omega) h.1
  refine fail_All_go ⟨_, hr, .inl ⟨rfl, by omega, ?_⟩⟩
  have e : wi (1 * 2 ^ (min (((qs.map fQ).length : Int)).toNat 64)) = ((2 ^ qs.length : Nat) : Int) := by
   rw [Int.toNat_natCast, hL, Nat.min_eq_left (by omega), Int.one_mul]
   have e1 : (2 : Int) ^ qs.length = ((2 ^ qs.length : Nat) : Int) := by rw [Int.natCast_pow]; rfl
   rw [e1]
   generalize (2 ^ qs.length : Nat) = m at hp ⊢
   exact s64i (by omega) (by omega)
  rw [e]
  exact (fail_All_loop hz h.1 (2 ^ qs.length) 0 (by omega)).1 rfl
 ·rw [if_neg h] at hr
  exact fail_All_go ⟨_, hr, .inr ⟨by omega, rfl, rfl⟩⟩
end Go.Proofs.YtjcdkemnflmfiaaGreatA
namespace Go.Proofs.YtjcdkemnflmfiaaGreatA
open Go Go.Proofs
section
variable {gs : List (List Hop)}
theorem getD_good (h : GoodGs gs) (i : Nat) : GoodG (gs.getD i []) := by
 rcases Nat.lt_or_ge i gs.length with hi | hi
 ·rw [List.getD_eq_getElem?_getD, List.getElem?_eq_getElem hi]
  exact h.2 _ (List.getElem_mem hi)
 ·rw [List.getD_eq_getElem?_getD, List.getElem?_eq_none hi]; exact .nil
end
def livesB : List ByteArray → ByteArray → Nat → Bool
 | [], _, _ => false
 | x :: L, s, n => (decide (x = s) && decide (n % 2 = 1)) || livesB L s (n / 2)
theorem str_drop {l : List ByteArray} {i : Nat} (h : i < l.length) : l.drop i = l.getD i ByteArray.empty :: l.drop (i + 1) := by
 rw [List.drop_eq_getElem_cons h, List.getD_eq_getElem?_getD, List.getElem?_eq_getElem h]; rfl
theorem hop_drop {l : List Hop} {i : Nat} (h : i < l.length) : l.drop i = l.getD i (ByteArray.empty, 0) :: l.drop (i + 1) := by
 rw [List.drop_eq_getElem_cons h, List.getD_eq_getElem?_getD, List.getElem?_eq_getElem h]; rfl
theorem grp_drop {l : List (List Hop)} {i : Nat} (h : i < l.length) : l.drop i = l.getD i [] :: l.drop (i + 1) := by
 rw [List.drop_eq_getElem_cons h, List.getD_eq_getElem?_getD, List.getElem?_eq_getElem h]; rfl

noncomputable instance memDec (s : ByteArray) (o : List ByteArray) : Decidable (s ∈ o) := Classical.propDecidable _
noncomputable def addN (o : List ByteArray) (s : ByteArray) : List ByteArray := if s ∈ o then o else o ++ [s]
noncomputable def outs (o : List ByteArray) (l : List Hop) : List ByteArray := l.foldl (fun o h => addN o h.1) o
theorem outs_cons (o : List ByteArray) (h : Hop) (l : List Hop) : outs o (h :: l) = outs (addN o h.1) l := rfl
theorem outs_append (o : List ByteArray) (l m : List Hop) : outs o (l ++ m) = outs (outs o l) m := by simp [outs, List.foldl_append]
theorem addN_len (o : List ByteArray) (s : ByteArray) : (addN o s).length ≤ o.length + 1 := by
 unfold addN; split
 ·omega
 ·simp
theorem addN_nodup {o : List ByteArray} (h : o.Nodup) (s : ByteArray) : (addN o s).Nodup := by
 unfold addN; split
 ·exact h
 ·rename_i hs
  rw [List.nodup_append]
  refine ⟨h, by simp, fun a ha b hb e => hs ?_⟩
  rw [List.mem_singleton] at hb
  rw [← hb, ← e]; exact ha
theorem addN_mem {o : List ByteArray} {s x : ByteArray} : x ∈ addN o s ↔ x ∈ o ∨ x = s := by
 unfold addN; split
 ·rename_i h
  exact ⟨.inl, fun k => k.elim id fun e => e ▸ h⟩
 ·simp
theorem outs_nodup : ∀ (l : List Hop) {o : List ByteArray}, o.Nodup → (outs o l).Nodup
 | [], o, h => h
 | x :: l, o, h => outs_nodup l (addN_nodup h x.1)
theorem outs_mem : ∀ (l : List Hop) {o : List ByteArray} {x : ByteArray}, x ∈ outs o l ↔ x ∈ o ∨ ∃ h ∈ l, h.1 = x
 | [], o, x => by simp [outs]
 | y :: l, o, x => by
  rw [outs_cons, outs_mem l, addN_mem]
  constructor
  ·rintro ((h | h) | ⟨h, h1, h2⟩)
   ·exact .inl h
   ·exact .inr ⟨y, List.mem_cons_self .., h.symm⟩
   ·exact .inr ⟨h, List.mem_cons_of_mem _ h1, h2⟩
  ·rintro (h | ⟨h, h1, h2⟩)
   ·exact .inl (.inl h)
   ·rcases List.mem_cons.1 h1 with rfl | h1
    ·exact .inl (.inr h2.symm)
    ·exact .inr ⟨h, h1, h2⟩
theorem outs_len : ∀ (l : List Hop) (o : List ByteArray), (outs o l).length ≤ o.length + l.length
 | [], o => by simp [outs]
 | x :: l, o => by
  rw [outs_cons]
  have := outs_len l (addN o x.1)
  have := addN_len o x.1
  rw [List.length_cons]; omega
noncomputable def names (gs : List (List Hop)) : List ByteArray := outs [] gs.flatten
theorem flat_len : ∀ (gs : List (List Hop)), (∀ g ∈ gs, GoodG g) → gs.flatten.length ≤ 5 * gs.length
 | [], _ => by simp
 | g :: gs, h => by
  have := flat_len gs fun x hx => h x (List.mem_cons_of_mem _ hx)
  have := (h g (List.mem_cons_self ..)).1
  rw [List.flatten_cons, List.length_append, List.length_cons]; omega
section
variable {a : ByteArray} {b c : Int} {d : Bool} {gs : List (List Hop)} {z : List ByteArray}
theorem xout2 {i k : Nat} (hi : i < gs.length) (hk : k < (gs.getD i []).length) {o : List ByteArray} (ho : o.length ≤ 1000) (hi4 : i ≤ 100) (hk5 : k ≤ 100) :
  ∀ (n j : Nat) (is : Bool), j + n = o.length →
  ((is = true ∨ ((gs.getD i []).getD k (ByteArray.empty, 0)).1 ∈ o.drop j) → ref24_Out_l1 (i : Int) (wi ((k : Int) + 1)) a b c d gs o z) →
  (¬ (is = true ∨ ((gs.getD i []).getD k (ByteArray.empty, 0)).1 ∈ o.drop j) → ref24_Out_l1 (i : Int) (wi ((k : Int) + 1)) a b c d gs (o ++ [((gs.getD i []).getD k (ByteArray.empty, 0)).1]) z) →
  ref24_Out_l2 (i : Int) (k : Int) is (j : Int) a b c d gs o z
 | 0, j, is, hj, Hy, Hn => by
  cases is with
  | true => exact ref24_Out_l2_go (.inr ⟨by omega, .inl ⟨rfl, Hy (.inl rfl)⟩⟩)
  | false =>
   rw [List.drop_eq_nil_of_le (by omega)] at Hn
   exact ref24_Out_l2_go (.inr ⟨by omega, .inr ⟨by simp, by omega, by omega, by omega, by rw [Int.toNat_natCast]; omega, ((gs.getD i []).getD k (ByteArray.empty, 0)).1, ((gs.getD i []).getD k (ByteArray.empty, 0)).2, rfl, by omega, _, rfl, Hn (by simp)⟩⟩)
 | n + 1, j, is, hj, Hy, Hn => by
  cases is with
  | true =>
   refine ref24_Out_l2_go (.inl ⟨by omega, .inl ⟨rfl, ?_⟩⟩)
   rw [w_succ (by omega)]
   exact xout2 hi hk ho hi4 hk5 n (j + 1) true (by omega) (fun _ => Hy (.inl rfl)) (fun h => absurd (.inl rfl) h)
  | false =>
   refine ref24_Out_l2_go (.inl ⟨by omega, .inr ⟨by simp, by omega, by omega, by omega, by omega, by rw [Int.toNat_natCast]; omega, ((gs.getD i []).getD k (ByteArray.empty, 0)).1, ((gs.getD i []).getD k (ByteArray.empty, 0)).2, rfl, ?_⟩⟩)
   rw [w_succ (by omega), Int.toNat_natCast]
   have e : ((decide (o.getD j ByteArray.empty = ((gs.getD i []).getD k (ByteArray.empty, 0)).1) = true) ∨ ((gs.getD i []).getD k (ByteArray.empty, 0)).1 ∈ o.drop (j + 1)) ↔ ((false = true) ∨ ((gs.getD i []).getD k (ByteArray.empty, 0)).1 ∈ o.drop j) := by
    rw [str_drop (show j < o.length by omega), List.mem_cons, decide_eq_true_iff]
    constructor
    ·rintro (h | h)
     ·exact .inr (.inl h.symm)
     ·exact .inr (.inr h)
    ·rintro (h | h | h)
     ·cases h
     ·exact .inl h.symm
     ·exact .inr h
   exact xout2 hi hk ho hi4 hk5 n (j + 1) _ (by omega) (fun h => Hy (e.1 h)) (fun h => Hn fun k => h (e.2 k))
theorem xout1 {i : Nat} (hi : i < gs.length) (hi4 : i ≤ 100) (hg : (gs.getD i []).length ≤ 5) :
  ∀ (n k : Nat) (o : List ByteArray), k + n = (gs.getD i []).length → o.length ≤ 5 * i + k → ref24_Out_l0 (wi ((i : Int) + 1)) a b c d gs (outs o ((gs.getD i []).drop k)) z → ref24_Out_l1 (i : Int) (k : Int) a b c d gs o z
 | 0, k, o, hk, ho, H => by
  rw [List.drop_eq_nil_of_le (by omega)] at H
  exact ref24_Out_l1_go ⟨by omega, by omega, .inr ⟨by rw [Int.toNat_natCast]; omega, H⟩⟩
 | n + 1, k, o, hk, ho, H => by
  have h : k < (gs.getD i []).length := by omega
  rw [hop_drop h, outs_cons] at H
  have := addN_len o ((gs.getD i []).getD k (ByteArray.empty, 0)).1
  have key := xout1 hi hi4 hg n (k + 1) _ (by omega) (by omega) H
  refine ref24_Out_l1_go ⟨by omega, by omega, .inl ⟨by rw [Int.toNat_natCast]; omega, xout2 (a := a) (b := b) (c := c) (d := d) hi h (o := o) (by omega) hi4 (by omega) o.length 0 false (by omega) (fun hh => ?_) (fun hh => ?_)⟩⟩
  ·rw [w_succ (by omega)]
   rw [addN, if_pos (by simpa using hh)] at key
   exact key
  ·rw [w_succ (by omega)]
   rw [addN, if_neg (by simpa using hh)] at key
   exact key
theorem xout0 (hg : GoodGs gs) : ∀ (n i : Nat) (o : List ByteArray), i + n = gs.length → o.length ≤ 5 * i → ref24_Out_l0 (i : Int) a b c d gs o (outs o (gs.drop i).flatten)
 | 0, i, o, hi, ho => ref24_Out_l0_go (.inr ⟨by omega, by rw [List.drop_eq_nil_of_le (by omega)]; rfl⟩)
 | n + 1, i, o, hi, ho => by
  have h4 := hg.1
  have h : i < gs.length := by omega
  have h5 := (getD_good hg i).1
  rw [grp_drop h, List.flatten_cons, outs_append]
  refine ref24_Out_l0_go (.inl ⟨by omega, xout1 (a := a) (b := b) (c := c) (d := d) h (by omega) h5 (gs.getD i []).length 0 o (by omega) (by omega) ?_⟩)
  rw [w_succ (by omega), List.drop_zero]
  have := outs_len (gs.getD i []) o
  exact xout0 hg n (i + 1) _ (by omega) (by omega)
theorem ref_Out_is (a : ByteArray) (b c : Int) (d : Bool) (hg : GoodGs gs) : ref24_Out_R a b c d gs (names gs) :=
 ref24_Out_go (xout0 hg gs.length 0 [] (by omega) (by simp))
def Seen (m : List (ByteArray × Bool)) (o : List ByteArray) : Prop := ∀ s, (mget s m = some true ∧ s ∈ o) ∨ (mget s m = none ∧ ¬ s ∈ o)
theorem Seen.put {m : List (ByteArray × Bool)} {o : List ByteArray} (h : Seen m o) (s : ByteArray) : Seen (mput s true m) (o ++ [s]) := fun x => by
 rw [mget_put, List.mem_append, List.mem_singleton]
 by_cases e : x = s
 ·rw [if_pos e]; exact .inl ⟨rfl, .inr e⟩
 ·rw [if_neg e]
  rcases h x with ⟨h1, h2⟩ | ⟨h1, h2⟩
  ·exact .inl ⟨h1, .inl h2⟩
  ·exact .inr ⟨h1, fun k => k.elim h2 e⟩
theorem lout1 {i : Nat} {g : List Hop} (hg : g.length ≤ 5) (hi4 : i ≤ 100) : ∀ (n k : Nat) (m : List (ByteArray × Bool)) (o : List ByteArray), k + n = g.length → o.length ≤ 5 * i + k → Seen m o →
  (∀ m, Seen m (outs o (g.drop k)) → limits_Out_l0 gs (gs.length : Int) (wi ((i : Int) + 1)) m (outs o (g.drop k)) z) → limits_Out_l1 gs (gs.length : Int) (i : Int) g (g.length : Int) (k : Int) m o z
 | 0, k, m, o, hk, ho, hs, H => by
  rw [List.drop_eq_nil_of_le (by omega)] at H
  exact limits_Out_l1_go (.inr ⟨by omega, H m hs⟩)
 | n + 1, k, m, o, hk, ho, hs, H => by
  have h : k < g.length := by omega
  rw [hop_drop h, outs_cons] at H
  refine limits_Out_l1_go (.inl ⟨by omega, by omega, by omega, (g.getD k (ByteArray.empty, 0)).1, (g.getD k (ByteArray.empty, 0)).2, rfl, ?_⟩)
  rw [w_succ (by omega)]
  have hp := hs.put (g.getD k (ByteArray.empty, 0)).1
  rcases hs (g.getD k (ByteArray.empty, 0)).1 with ⟨h1, h2⟩ | ⟨h1, h2⟩
  ·rw [addN, if_pos h2] at H
   exact .inl ⟨true, h1, .inl ⟨rfl, lout1 hg hi4 n (k + 1) m o (by omega) (by omega) hs H⟩⟩
  ·rw [addN, if_neg h2] at H
   exact .inr ⟨h1, _, rfl, by omega, _, rfl, lout1 hg hi4 n (k + 1) _ _ (by omega) (by simp; omega) hp H⟩
theorem lout0 (hg : GoodGs gs) : ∀ (n i : Nat) (m : List (ByteArray × Bool)) (o : List ByteArray), i + n = gs.length → o.length ≤ 5 * i → Seen m o → limits_Out_l0 gs (gs.length : Int) (i : Int) m o (outs o (gs.drop i).flatten)
 | 0, i, m, o, hi, ho, hs => limits_Out_l0_go (.inr ⟨by omega, by rw [List.drop_eq_nil_of_le (by omega)]; rfl⟩)
 | n + 1, i, m, o, hi, ho, hs => by
  have h4 := hg.1
  have h : i < gs.length := by omega
  have h5 := (getD_good hg i).1
  rw [grp_drop h, List.flatten_cons, outs_append]
  refine limits_Out_l0_go (.inl ⟨by omega, by omega, by omega, ?_⟩)
  rw [Int.toNat_natCast]
  refine lout1 h5 (by omega) (gs.getD i []).length 0 m o (by omega) (by omega) hs fun m hm => ?_
  rw [w_succ (by omega), List.drop_zero]
  rw [List.drop_zero] at hm
  have := outs_len (gs.getD i []) o
  exact lout0 hg n (i + 1) _ _ (by omega) (by omega) hm
theorem lim_Out_is (a : ByteArray) (b c : Int) (d : Bool) (hg : GoodGs gs) : limits_Out_R a b c d gs (names gs) :=
 limits_Out_go (lout0 hg gs.length 0 [] [] (by omega) (by simp) (fun s => .inr ⟨rfl, by simp⟩))
theorem names_len (hg : GoodGs gs) : (names gs).length ≤ 20 := by
 have := outs_len gs.flatten []
 have := flat_len gs hg.2
 have := hg.1
 unfold names
 rw [List.length_nil] at *
 omega
theorem names_nodup (gs : List (List Hop)) : (names gs).Nodup := outs_nodup _ List.nodup_nil
theorem names_mem {g : List Hop} {h : Hop} (hg : g ∈ gs) (hh : h ∈ g) : h.1 ∈ names gs := (outs_mem _).2 (.inr ⟨h, List.mem_flatten.2 ⟨g, hg, hh⟩, rfl⟩)
end
end Go.Proofs.YtjcdkemnflmfiaaGreatA
namespace Go.Proofs.YtjcdkemnflmfiaaGreatA
open Go
end Go.Proofs.YtjcdkemnflmfiaaGreatA
namespace Go.Proofs.YtjcdkemnflmfiaaGreatA
open Go
def cast (w : List Int) : List Rat := w.map (fun n : Int => (n : Rat))
def Shr (w : List Int) (qs : List Rat) (e : Int) : Prop :=
 (w = [] ∧ qs = [] ∧ e = 9) ∨ (w ≠ [] ∧ (∃ x ∈ w, x < 0) ∧ qs = [] ∧ e = 2) ∨ (w ≠ [] ∧ (∀ x ∈ w, 0 ≤ x) ∧ sumQ 0 (cast w) = 0 ∧ qs = [] ∧ e = 3) ∨
 (w ≠ [] ∧ (∀ x ∈ w, 0 ≤ x) ∧ sumQ 0 (cast w) ≠ 0 ∧ qs = (cast w).map (· / sumQ 0 (cast w)) ∧ e = 0)
theorem cast_len (w : List Int) : (cast w).length = w.length := List.length_map _
def W64 (w : List Int) : Prop := ∀ x ∈ w, -9223372036854775808 ≤ x ∧ x < 9223372036854775808
theorem int_mem {w : List Int} {i : Nat} (h : i < w.length) : w.getD i 0 ∈ w := by
 rw [List.getD_eq_getElem?_getD, List.getElem?_eq_getElem h]; exact List.getElem_mem h
theorem int_take {w : List Int} {i : Nat} (h : i < w.length) : w.take (i + 1) = w.take i ++ [w.getD i 0] := by
 rw [List.take_succ_eq_append_getElem h, List.getD_eq_getElem?_getD, List.getElem?_eq_getElem h]; rfl
theorem cast_AZ {w : List Int} (hw : W64 w) : AZ 2 (cast w) := fun q hq => by
 obtain ⟨n, hn, rfl⟩ := List.mem_map.1 hq
 exact SZ_int (hw n hn).1 (hw n hn).2
theorem cast_fits {w : List Int} (hw : W64 w) (hl : w.length ≤ 100) : Fits (cast w) := ⟨2, cast_AZ hw, by rw [cast_len]; omega⟩
theorem take_nn {w : List Int} {i : Nat} (h : ∀ j, j < i → ¬ w.getD j 0 < 0) (hi : w.length ≤ i) : ∀ x ∈ w, 0 ≤ x := fun x hx => by
 obtain ⟨j, hj, rfl⟩ := List.getElem_of_mem hx
 have := h j (by omega)
 rw [List.getD_eq_getElem?_getD, List.getElem?_eq_getElem hj] at this
 have this : ¬ w[j] < 0 := this
 omega
theorem cast_snoc {w : List Int} {i : Nat} (h : i < w.length) : cast (w.take (i + 1)) = cast (w.take i) ++ [((w.getD i 0 : Int) : Rat)] := by
 rw [int_take h, cast, List.map_append]; rfl
theorem ext0 {L M : List Rat} (hl : L.length = M.length) (h : ∀ j, j < L.length → L.getD j 0 = M.getD j 0) : L = M := by
 refine List.ext_getElem hl fun i h1 h2 => ?_
 have := h i h1
 rw [List.getD_eq_getElem?_getD, List.getD_eq_getElem?_getD, List.getElem?_eq_getElem h1, List.getElem?_eq_getElem h2] at this
 exact this
theorem q_set_eq {l : List Rat} {i : Nat} (h : i < l.length) (v : Rat) : (l.set i v).getD i 0 = v := by
 rw [List.getD_eq_getElem?_getD, List.getElem?_set_self h]; rfl
theorem q_set_ne {l : List Rat} {i j : Nat} (h : i ≠ j) (v : Rat) : (l.set i v).getD j 0 = l.getD j 0 := by
 rw [List.getD_eq_getElem?_getD, List.getD_eq_getElem?_getD, List.getElem?_set_ne h]
theorem fold_Shares_div {qs : List Rat} {a : Rat} (ha : a ≠ 0) (hz : AZ 2 qs) (hza : SZ 500 a) (hl : qs.length ≤ 100) (d : Nat) : ∀ (i : Nat) (L : List Rat), i + d = qs.length → L.length = qs.length → (∀ j, j < i → L.getD j 0 = qs.getD j 0 / a) → (∀ j, i ≤ j → L.getD j 0 = qs.getD j 0) →
  fold_Shares_l3 (qs.length : Int) (i : Int) (ng a.num) (ab a.num) (lim a.den) (L.map fQ) ((qs.map (· / a)).map fQ) 0 := by
 induction d with
 | zero =>
  intro i L hi hL h1 h2
  have e : L = qs.map (· / a) := ext0 (by rw [List.length_map, hL]) fun j hj => by
   rw [h1 j (by omega), map_getD (f := (· / a)) (by omega) 0 0]
  rw [e]
  exact fold_Shares_l3_go (.inr ⟨by omega, rfl, rfl⟩)
 | succ d ih =>
  intro i L hi hL h1 h2
  have h : i < L.length := by omega
  have hml : (L.map fQ).length = L.length := List.length_map _
  have hq := (hz.get (i := i) (by omega)).mono (show 2 ≤ 10000 by omega)
  have hdv := rat_Div_is ha hq (hza.mono (by omega))
  refine fold_Shares_l3_go (.inl ⟨by omega, by omega, by omega, _, _, _, getD_fQ h _, ?_⟩)
  rw [h2 i (Nat.le_refl _)]
  refine ⟨_, _, _, _, hdv, .inl ⟨rfl, (L.set i (qs.getD i 0 / a)).map fQ, by rw [List.map_set, Int.toNat_natCast]; rfl, ?_⟩⟩
  rw [w_succ (by omega)]
  refine ih (i + 1) _ (by omega) (by rw [List.length_set, hL]) (fun j hj => ?_) (fun j hj => ?_)
  ·by_cases hji : i = j
   ·subst hji; rw [q_set_eq h]
   ·rw [q_set_ne hji, h1 j (by omega)]
  ·rw [q_set_ne (by omega), h2 j (by omega)]
theorem fold_Shares_loop {w : List Int} (hw : W64 w) (hl : w.length ≤ 100) (d : Nat) : ∀ i : Nat, i + d = w.length → 0 < i → (∀ j, j < i → ¬ w.getD j 0 < 0) →
  ∃ qs e, Shr w qs e ∧ fold_Shares_l1 w (w.length : Int) (i : Int) ((cast (w.take i)).map fQ) (qs.map fQ) e := by
 induction d with
 | zero =>
  intro i hi h0 hn
  have hne : w ≠ [] := fun h => by subst h; simp at hi; omega
  have hnn := take_nn hn (by omega)
  rw [List.take_of_length_le (by omega)]
  have hs := fold_Sum_S_is (cast_fits hw hl)
  have hL : ((cast w).map fQ).length = (cast w).length := List.length_map _
  have hza := SZ.sum (cast_AZ hw) SZ0
  rw [cast_len] at hza
  by_cases ha : sumQ 0 (cast w) = 0
  ·refine ⟨[], 3, .inr (.inr (.inl ⟨hne, hnn, ha, rfl, rfl⟩)), fold_Shares_l1_go (.inr ⟨by omega, _, _, _, _, rfl, hs, ?_⟩)⟩
   rw [ha]
   exact fold_Shares_l3_go (.inl ⟨by rw [hL, cast_len]; omega, by omega, by rw [hL, cast_len]; omega, _, _, _, getD_fQ (by rw [cast_len]; show 0 < w.length; omega) _, _, _, _, _, rat_Div_zero, .inr ⟨by omega, rfl, rfl⟩⟩)
  ·refine ⟨_, 0, .inr (.inr (.inr ⟨hne, hnn, ha, rfl, rfl⟩)), fold_Shares_l1_go (.inr ⟨by omega, _, _, _, _, rfl, hs, ?_⟩)⟩
   rw [hL]
   exact fold_Shares_div ha (cast_AZ hw) (hza.mono (by omega)) (by rw [cast_len]; exact hl) (cast w).length 0 _ (by omega) rfl (fun j hj => by omega) (fun j _ => rfl)
 | succ d ih =>
  intro i hi h0 hn
  have h : i < w.length := by omega
  have hr := hw _ (int_mem h)
  have hL : ((cast (w.take i)).map fQ).length = i := by rw [List.length_map, cast_len, List.length_take]; omega
  by_cases hneg : w.getD i 0 < 0
  ·refine ⟨[], 2, .inr (.inl ⟨fun h => (by subst h; simp at hi), ⟨_, int_mem h, hneg⟩, rfl, rfl⟩), fold_Shares_l1_go (.inl ⟨by omega, by omega, by omega, .inl ⟨hneg, rfl, rfl⟩⟩)⟩
  ·obtain ⟨qs, e, h1, h2⟩ := ih (i + 1) (by omega) (by omega) (fun j hj => by
    by_cases hji : j = i
    ·subst hji; exact hneg
    ·exact hn j (by omega))
   refine ⟨qs, e, h1, fold_Shares_l1_go (.inl ⟨by omega, by omega, by omega, .inr ⟨hneg, _, _, _, rat_Of_is hr.1 hr.2, by omega, (cast (w.take (i + 1))).map fQ, by rw [cast_snoc h, List.map_append]; rfl, ?_⟩⟩)⟩
   rw [w_succ (by omega)]
   exact h2
theorem fold_Shares_is {w : List Int} (hw : W64 w) (hl : w.length ≤ 100) : ∃ qs e, Shr w qs e ∧ fold_Shares_R w (qs.map fQ) e := by
 by_cases h0 : w = []
 ·subst h0
  exact ⟨[], 9, .inl ⟨rfl, rfl, rfl⟩, fold_Shares_go (.inl ⟨rfl, rfl, rfl⟩)⟩
 ·have h : 0 < w.length := List.length_pos_iff.2 h0
  have hr := hw _ (int_mem h)
  by_cases hneg : w.getD 0 0 < 0
  ·exact ⟨[], 2, .inr (.inl ⟨h0, ⟨_, int_mem h, hneg⟩, rfl, rfl⟩), fold_Shares_go (.inr ⟨by omega, fold_Shares_l0_go (.inl ⟨by omega, by omega, by omega, .inl ⟨hneg, rfl, rfl⟩⟩)⟩)⟩
  ·obtain ⟨qs, e, h1, h2⟩ := fold_Shares_loop hw hl (w.length - 1) 1 (by omega) (by omega) (fun j hj => by rw [show j = 0 by omega]; exact hneg)
   refine ⟨qs, e, h1, fold_Shares_go (.inr ⟨by omega, fold_Shares_l0_go (.inl ⟨by omega, by omega, by omega, .inr ⟨hneg, _, _, _, rat_Of_is hr.1 hr.2, by omega, (cast (w.take 1)).map fQ, by rw [show (1 : Nat) = 0 + 1 from rfl, cast_snoc h]; rfl, ?_⟩⟩)⟩)⟩
   rw [s64i (n := 0 + 1) (by omega) (by omega)]
   exact h2
theorem sumQ_snoc (s q : Rat) (qs : List Rat) : sumQ s (qs ++ [q]) = sumQ s qs + q := by simp [sumQ]
end Go.Proofs.YtjcdkemnflmfiaaGreatA
namespace Go.Proofs.YtjcdkemnflmfiaaGreatA
open Go Go.Proofs
abbrev LinkT := ByteArray × ByteArray × ByteArray × Bool × List Int × List Int
abbrev NodeT := ByteArray × List (Int × Int)
abbrev ldef : LinkT := (ByteArray.empty, ByteArray.empty, ByteArray.empty, false, [], [])
abbrev ndef : NodeT := (ByteArray.empty, [])
abbrev hdef : Hop := (ByteArray.empty, 0)
theorem drop_get {α : Type} {l : List α} {i : Nat} (h : i < l.length) (d : α) : l.drop i = l.getD i d :: l.drop (i + 1) := by
 rw [List.drop_eq_getElem_cons h, List.getD_eq_getElem?_getD, List.getElem?_eq_getElem h]; rfl
def ix {α : Type} (p : α → Bool) : List α → Nat → Int
 | [], _ => -1
 | x :: l, i => if p x = true then (i : Int) else ix p l (i + 1)
theorem ix_pos {α : Type} {p : α → Bool} {x : α} {l : List α} {i : Nat} (h : p x = true) : ix p (x :: l) i = (i : Int) := if_pos h
theorem ix_neg {α : Type} {p : α → Bool} {x : α} {l : List α} {i : Nat} (h : p x = false) : ix p (x :: l) i = ix p l (i + 1) := if_neg (Bool.eq_false_iff.1 h)
theorem ix_tells {α : Type} (p : α → Bool) : ∀ (l : List α) (i : Nat), (ix p l i = -1 ∧ l.any p = false) ∨ ∃ k : Nat, ix p l i = ((i + k : Nat) : Int) ∧ k < l.length ∧ l.any p = true ∧ ∀ d, p (l.getD k d) = true
 | [], i => .inl ⟨rfl, rfl⟩
 | x :: l, i => by
  unfold ix
  by_cases h : p x = true
  ·rw [if_pos h]; exact .inr ⟨0, by simp, by simp, by simp [h], fun d => by simpa using h⟩
  ·rw [if_neg h]
   rcases ix_tells p l (i + 1) with ⟨h1, h2⟩ | ⟨k, h1, h2, h3, h4⟩
   ·exact .inl ⟨h1, by simp [h, h2]⟩
   ·exact .inr ⟨k + 1, by rw [h1]; omega, by simp; omega, by simp [h3], fun d => by simpa using h4 d⟩
theorem ix_dec {α : Type} (p : α → Bool) (l : List α) (i : Nat) : decide (0 ≤ ix p l i) = l.any p := by
 rcases ix_tells p l i with ⟨h1, h2⟩ | ⟨k, h1, _, h3, _⟩
 ·rw [h1, h2]; rfl
 ·rw [h1, h3]; exact decide_eq_true (by omega)
def lk (L : List LinkT) (s : ByteArray) : Int := ix (fun l => decide (l.1 = s)) L 0
def nd (N : List NodeT) (s : ByteArray) : Int := ix (fun l => decide (l.1 = s)) N 0
theorem link_loop {L : List LinkT} {s : ByteArray} (hL : L.length ≤ 1000) : ∀ (m i : Nat), i + m = L.length → slices_IndexFunc___api_Link_api_Link__v0_l0 L s (L.length : Int) (i : Int) (ix (fun (l : LinkT) => decide (l.1 = s)) (L.drop i) i)
 | 0, i, hi => slices_IndexFunc___api_Link_api_Link__v0_l0_go (.inr ⟨by omega, by rw [List.drop_eq_nil_of_le (by omega)]; rfl⟩)
 | m + 1, i, hi => by
  have h : i < L.length := by omega
  have ih := link_loop (s := s) hL m (i + 1) (by omega)
  rw [drop_get h ldef]
  refine slices_IndexFunc___api_Link_api_Link__v0_l0_go (.inl ⟨by omega, by omega, by omega, (L.getD i ldef).1, (L.getD i ldef).2.1, (L.getD i ldef).2.2.1, (L.getD i ldef).2.2.2.1, (L.getD i ldef).2.2.2.2.1, (L.getD i ldef).2.2.2.2.2, rfl, _, formed_Link_1_v0_go rfl, ?_⟩)
  rw [w_succ (by omega)]
  cases hb : (fun (l : LinkT) => decide (l.1 = s)) (L.getD i ldef) with
  | true => exact .inl ⟨hb, ix_pos (p := fun (l : LinkT) => decide (l.1 = s)) hb⟩
  | false => exact .inr ⟨Bool.eq_false_iff.1 hb, by rw [ix_neg (p := fun (l : LinkT) => decide (l.1 = s)) hb]; exact ih⟩
theorem node_loop {L : List NodeT} {s : ByteArray} (hL : L.length ≤ 1000) : ∀ (m i : Nat), i + m = L.length → slices_IndexFunc___api_Node_api_Node__v0_l0 L s (L.length : Int) (i : Int) (ix (fun (l : NodeT) => decide (l.1 = s)) (L.drop i) i)
 | 0, i, hi => slices_IndexFunc___api_Node_api_Node__v0_l0_go (.inr ⟨by omega, by rw [List.drop_eq_nil_of_le (by omega)]; rfl⟩)
 | m + 1, i, hi => by
  have h : i < L.length := by omega
  have ih := node_loop (s := s) hL m (i + 1) (by omega)
  rw [drop_get h ndef]
  refine slices_IndexFunc___api_Node_api_Node__v0_l0_go (.inl ⟨by omega, by omega, by omega, (L.getD i ndef).1, (L.getD i ndef).2, rfl, _, formed_Node_1_v0_go rfl, ?_⟩)
  rw [w_succ (by omega)]
  cases hb : (fun (l : NodeT) => decide (l.1 = s)) (L.getD i ndef) with
  | true => exact .inl ⟨hb, ix_pos (p := fun (l : NodeT) => decide (l.1 = s)) hb⟩
  | false => exact .inr ⟨Bool.eq_false_iff.1 hb, by rw [ix_neg (p := fun (l : NodeT) => decide (l.1 = s)) hb]; exact ih⟩
theorem mx_pos {a : Int} (h : 0 ≤ a) : mx a 0 = a := by unfold mx; rw [if_neg (by omega)]
theorem formed_Link_is {N : List NodeT} {L : List LinkT} {R : List T_api_Rule} (hL : L.length ≤ 1000) (a s : ByteArray) : formed_Link_R a N L R s (mx (lk L s) 0) (decide (0 ≤ lk L s)) :=
 formed_Link_go ⟨_, slices_IndexFunc___api_Link_api_Link__v0_go (link_loop hL L.length 0 (by omega)), rfl, rfl⟩
theorem formed_Node_is {N : List NodeT} {L : List LinkT} {R : List T_api_Rule} (hN : N.length ≤ 1000) (a s : ByteArray) : formed_Node_R a N L R s (mx (nd N s) 0) (decide (0 ≤ nd N s)) :=
 formed_Node_go ⟨_, slices_IndexFunc___api_Node_api_Node__v0_go (node_loop hN N.length 0 (by omega)), rfl, rfl⟩
theorem lk_lt {L : List LinkT} {s : ByteArray} (h : 0 ≤ lk L s) : (lk L s).toNat < L.length := by
 rcases ix_tells (fun l : LinkT => decide (l.1 = s)) L 0 with ⟨h1, _⟩ | ⟨k, h1, h2, _⟩ <;> unfold lk at * <;> omega
theorem nd_lt {N : List NodeT} {s : ByteArray} (h : 0 ≤ nd N s) : (nd N s).toNat < N.length := by
 rcases ix_tells (fun l : NodeT => decide (l.1 = s)) N 0 with ⟨h1, _⟩ | ⟨k, h1, h2, _⟩ <;> unfold nd at * <;> omega
def light (gs : List (List Hop)) : Bool := gs.any fun g => g.any fun h => decide (h.2 < 1)
theorem lhop_loop {L : List Hop}  (hL : L.length ≤ 1000) : ∀ (m i : Nat), i + m = L.length → slices_IndexFunc___api_Hop_api_Hop__v0_l0 L  (L.length : Int) (i : Int) (ix (fun (h : Hop) => decide (h.2 < 1)) (L.drop i) i)
 | 0, i, hi => slices_IndexFunc___api_Hop_api_Hop__v0_l0_go (.inr ⟨by omega, by rw [List.drop_eq_nil_of_le (by omega)]; rfl⟩)
 | m + 1, i, hi => by
  have h : i < L.length := by omega
  have ih := lhop_loop  hL m (i + 1) (by omega)
  rw [drop_get h hdef]
  refine slices_IndexFunc___api_Hop_api_Hop__v0_l0_go (.inl ⟨by omega, by omega, by omega, (L.getD i hdef).1, (L.getD i hdef).2, rfl, _, step_light_1_1_go rfl, ?_⟩)
  rw [w_succ (by omega)]
  cases hb : (fun (h : Hop) => decide (h.2 < 1)) (L.getD i hdef) with
  | true => exact .inl ⟨hb, ix_pos (p := fun (h : Hop) => decide (h.2 < 1)) hb⟩
  | false => exact .inr ⟨Bool.eq_false_iff.1 hb, by rw [ix_neg (p := fun (h : Hop) => decide (h.2 < 1)) hb]; exact ih⟩
theorem light_hops {g : List Hop} (hg : g.length ≤ 1000) : step_light_1_R g (g.any fun h => decide (h.2 < 1)) :=
 step_light_1_go ⟨_, slices_ContainsFunc___api_Hop_api_Hop__v0_go ⟨_, slices_IndexFunc___api_Hop_api_Hop__v0_go (lhop_loop hg g.length 0 (by omega)), rfl⟩, (ix_dec _ _ _).symm⟩
theorem lgrp_loop {L : List (List Hop)} (hG : ∀ i : Nat, (L.getD i []).length ≤ 1000) (hL : L.length ≤ 1000) : ∀ (m i : Nat), i + m = L.length → slices_IndexFunc_____api_Hop___api_Hop__v1_l0 L  (L.length : Int) (i : Int) (ix (fun (g : (List Hop)) => g.any fun h => decide (h.2 < 1)) (L.drop i) i)
 | 0, i, hi => slices_IndexFunc_____api_Hop___api_Hop__v1_l0_go (.inr ⟨by omega, by rw [List.drop_eq_nil_of_le (by omega)]; rfl⟩)
 | m + 1, i, hi => by
  have h : i < L.length := by omega
  have ih := lgrp_loop hG hL m (i + 1) (by omega)
  rw [drop_get h []]
  refine slices_IndexFunc_____api_Hop___api_Hop__v1_l0_go (.inl ⟨by omega, by omega, by omega, _, light_hops (hG i), ?_⟩)
  rw [w_succ (by omega)]
  cases hb : (fun (g : (List Hop)) => g.any fun h => decide (h.2 < 1)) (L.getD i []) with
  | true => exact .inl ⟨hb, ix_pos (p := fun (g : (List Hop)) => g.any fun h => decide (h.2 < 1)) hb⟩
  | false => exact .inr ⟨Bool.eq_false_iff.1 hb, by rw [ix_neg (p := fun (g : (List Hop)) => g.any fun h => decide (h.2 < 1)) hb]; exact ih⟩
theorem light_is (a : ByteArray) (b c : Int) (d : Bool) {gs : List (List Hop)} (hg : GoodGs gs) : step_light_R a b c d gs (light gs) :=
 step_light_go ⟨_, slices_ContainsFunc_____api_Hop___api_Hop__v0_go ⟨_, slices_IndexFunc_____api_Hop___api_Hop__v1_go (lgrp_loop (fun i => by have := (getD_good hg i).1; omega) (by have := hg.1; omega) gs.length 0 (by omega)), rfl⟩, (ix_dec _ _ _).symm⟩
theorem getD_mem' {α : Type} {l : List α} {i : Nat} {d : α} (h : i < l.length) : l.getD i d ∈ l := by
 rw [List.getD_eq_getElem?_getD, List.getElem?_eq_getElem h]; exact List.getElem_mem h
theorem str_loop {L : List ByteArray} {s : ByteArray} (hL : L.length ≤ 1000) : ∀ (m i : Nat), i + m = L.length → slices_Index___string_string__l0 L s (L.length : Int) (i : Int) (ix (fun x => decide (s = x)) (L.drop i) i)
 | 0, i, hi => slices_Index___string_string__l0_go (.inr ⟨by omega, by rw [List.drop_eq_nil_of_le (by omega)]; rfl⟩)
 | m + 1, i, hi => by
  have h : i < L.length := by omega
  have ih := str_loop (s := s) hL m (i + 1) (by omega)
  rw [drop_get h ByteArray.empty, ix]
  refine slices_Index___string_string__l0_go (.inl ⟨by omega, by omega, by omega, ?_⟩)
  rw [w_succ (by omega)]
  by_cases hb : s = L.getD i ByteArray.empty
  ·exact .inl ⟨hb, by rw [if_pos (decide_eq_true hb)]⟩
  ·exact .inr ⟨hb, by rw [if_neg (by simpa using hb)]; exact ih⟩
theorem lives_none : ∀ {L : List ByteArray} {s : ByteArray} {n : Nat}, ¬ s ∈ L → livesB L s n = false
 | [], s, n, _ => rfl
 | x :: L, s, n, h => by
  rw [livesB, decide_eq_false (fun e => h (by rw [e]; exact List.mem_cons_self ..)), Bool.false_and, Bool.false_or]
  exact lives_none fun k => h (List.mem_cons_of_mem _ k)
theorem lives_from : ∀ {L : List ByteArray} {s : ByteArray} {n i : Nat}, L.Nodup → s ∈ L → ∃ k : Nat, ix (fun x => decide (s = x)) L i = ((i + k : Nat) : Int) ∧ k < L.length ∧ livesB L s n = decide (n / 2 ^ k % 2 = 1)
 | [], s, n, i, _, h => by cases h
 | x :: L, s, n, i, hn, h => by
  rw [List.nodup_cons] at hn
  by_cases e : s = x
  ·subst e
   refine ⟨0, by rw [ix, if_pos (decide_eq_true rfl)]; simp, by simp, ?_⟩
   rw [livesB, lives_none hn.1, decide_eq_true rfl, Bool.true_and, Bool.or_false, Nat.pow_zero, Nat.div_one]
  ·have hs : s ∈ L := by
    rcases List.mem_cons.1 h with h | h
    ·exact absurd h e
    ·exact h
   obtain ⟨k, h1, h2, h3⟩ := lives_from (n := n / 2) (i := i + 1) hn.2 hs
   refine ⟨k + 1, by rw [ix, if_neg (by simpa using e), h1]; omega, by simp; omega, ?_⟩
   rw [livesB, decide_eq_false (fun h => e h.symm), Bool.false_and, Bool.false_or, h3, Nat.div_div_eq_div_mul, Nat.pow_succ, Nat.mul_comm 2]
section
variable {b : Bool} {u v : List Int} {M : List (ByteArray × Int)} {ps : List T_api_Rat}
theorem live_is {L : List ByteArray} (hL : L.length ≤ 60) (hn : L.Nodup) {s : ByteArray} (hs : s ∈ L) {n : Nat} (h : n < 18446744073709551616) : step_Of_1_v0_R s (n : Int) b u v L M ps (livesB L s n) := by
 obtain ⟨k, h1, h2, h3⟩ := lives_from (n := n) (i := 0) hn hs
 rw [Nat.zero_add] at h1
 refine step_Of_1_v0_go ⟨(k : Int), ?_, by omega, ?_⟩
 ·rw [← h1]; exact slices_Index___string_string__go (str_loop (by omega) L.length 0 (by omega))
 ·rw [h3, Int.toNat_natCast, bit_test n k h (by omega)]
  exact decide_eq_decide.2 (by omega)
end
section
variable {b : Bool} {u v : List Int} {M : List (ByteArray × Int)} {ps : List T_api_Rat} {NS : List ByteArray} {n : Nat}
abbrev lvp (L : List ByteArray) (n : Nat) : ByteArray → Bool := fun s => livesB L s n
abbrev lvs (L : List ByteArray) (n : Nat) (g : List Hop) : List Hop := g.filter fun h => livesB L h.1 n
theorem ghop_loop {L : List Hop} (hN : NS.length ≤ 60) (hd : NS.Nodup) (hn : n < 18446744073709551616) (hs : ∀ i : Nat, i < L.length → (L.getD i hdef).1 ∈ NS) (hL : L.length ≤ 1000) : ∀ (m i : Nat), i + m = L.length → slices_IndexFunc___api_Hop_api_Hop__v2_l0 L (n : Int) b u v NS M ps (L.length : Int) (i : Int) (ix (fun (h : Hop) => livesB NS h.1 n) (L.drop i) i)
 | 0, i, hi => slices_IndexFunc___api_Hop_api_Hop__v2_l0_go (.inr ⟨by omega, by rw [List.drop_eq_nil_of_le (by omega)]; rfl⟩)
 | m + 1, i, hi => by
  have h : i < L.length := by omega
  have ih := ghop_loop hN hd hn hs hL m (i + 1) (by omega)
  rw [drop_get h hdef]
  refine slices_IndexFunc___api_Hop_api_Hop__v2_l0_go (.inl ⟨by omega, by omega, by omega, (L.getD i hdef).1, (L.getD i hdef).2, rfl, _, step_Group_1_1_v1_go ⟨_, live_is hN hd (hs i h) hn, rfl⟩, ?_⟩)
  rw [w_succ (by omega)]
  cases hb : (fun (h : Hop) => livesB NS h.1 n) (L.getD i hdef) with
  | true => exact .inl ⟨hb, ix_pos (p := fun (h : Hop) => livesB NS h.1 n) hb⟩
  | false => exact .inr ⟨Bool.eq_false_iff.1 hb, by rw [ix_neg (p := fun (h : Hop) => livesB NS h.1 n) hb]; exact ih⟩
theorem grp_hops (hN : NS.length ≤ 60) (hd : NS.Nodup) (hn : n < 18446744073709551616) {g : List Hop} (hs : ∀ i : Nat, i < g.length → (g.getD i hdef).1 ∈ NS) (hg : g.length ≤ 1000) : step_Group_1_v1_R g (n : Int) b u v NS M ps (g.any fun h => livesB NS h.1 n) :=
 step_Group_1_v1_go ⟨_, slices_ContainsFunc___api_Hop_api_Hop__v2_go ⟨_, slices_IndexFunc___api_Hop_api_Hop__v2_go (ghop_loop hN hd hn hs hg g.length 0 (by omega)), rfl⟩, (ix_dec _ _ _).symm⟩
theorem ggrp_loop {L : List (List Hop)} (hN : NS.length ≤ 60) (hd : NS.Nodup) (hn : n < 18446744073709551616) (hs : ∀ i : Nat, i < L.length → (∀ j : Nat, j < (L.getD i []).length → ((L.getD i []).getD j hdef).1 ∈ NS) ∧ (L.getD i []).length ≤ 1000) (hL : L.length ≤ 1000) : ∀ (m i : Nat), i + m = L.length → slices_IndexFunc_____api_Hop___api_Hop__v2_l0 L (n : Int) b u v NS M ps (L.length : Int) (i : Int) (ix (fun (g : (List Hop)) => g.any fun h => livesB NS h.1 n) (L.drop i) i)
 | 0, i, hi => slices_IndexFunc_____api_Hop___api_Hop__v2_l0_go (.inr ⟨by omega, by rw [List.drop_eq_nil_of_le (by omega)]; rfl⟩)
 | m + 1, i, hi => by
  have h : i < L.length := by omega
  have ih := ggrp_loop hN hd hn hs hL m (i + 1) (by omega)
  rw [drop_get h []]
  refine slices_IndexFunc_____api_Hop___api_Hop__v2_l0_go (.inl ⟨by omega, by omega, by omega, _, grp_hops hN hd hn (hs i h).1 (hs i h).2, ?_⟩)
  rw [w_succ (by omega)]
  cases hb : (fun (g : (List Hop)) => g.any fun h => livesB NS h.1 n) (L.getD i []) with
  | true => exact .inl ⟨hb, ix_pos (p := fun (g : (List Hop)) => g.any fun h => livesB NS h.1 n) hb⟩
  | false => exact .inr ⟨Bool.eq_false_iff.1 hb, by rw [ix_neg (p := fun (g : (List Hop)) => g.any fun h => livesB NS h.1 n) hb]; exact ih⟩
theorem grp_is (hN : NS.length ≤ 60) (hd : NS.Nodup) (hn : n < 18446744073709551616) (a : ByteArray) (c e : Int) (d : Bool) {gs : List (List Hop)} (hg : GoodGs gs) (hm : ∀ g ∈ gs, ∀ h ∈ g, h.1 ∈ NS) :
  step_Group_v1_R a c e d gs (n : Int) b u v NS M ps (ix (fun g => g.any fun h => livesB NS h.1 n) gs 0) :=
 step_Group_v1_go ⟨_, slices_IndexFunc_____api_Hop___api_Hop__v2_go (ggrp_loop hN hd hn (fun i hi => ⟨fun j hj => hm _ (getD_mem' hi) _ (getD_mem' hj), by have := (getD_good hg i).1; omega⟩) (by have := hg.1; omega) gs.length 0 (by omega)), rfl⟩
end
end Go.Proofs.YtjcdkemnflmfiaaGreatA
