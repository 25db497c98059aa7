/- Plain lemmas on words, digits and numbers. No program, no memory. -/
import Derived.Test.YtfijdkdpcjfiaaaGreatB4
import Derived.Laws.BitsLemmas
import Derived.Laws.Bits64
set_option linter.unusedVariables false
set_option linter.unusedSimpArgs false
namespace Go.Proofs.YtfijdkdpcjfiaaaGreatA
open Go
theorem w64 (n : Int) : wu n = n % 18446744073709551616 := IntKind.wrap_u64 n
theorem wi_eq (n : Int) : wi n = (n + 9223372036854775808) % 18446744073709551616 - 9223372036854775808 := by simp [wi, IntKind.wrap, IntKind.signed, IntKind.bits]; omega
theorem w64i {n : Int} (h0 : 0 ≤ n) (h1 : n < 18446744073709551616) : wu n = n := by rw [w64]; omega
theorem s64i {n : Int} (h0 : -9223372036854775808 ≤ n) (h1 : n < 9223372036854775808) : wi n = n := by rw [wi_eq]; omega
theorem w_succ {i : Nat} (h : i + 1 < 9223372036854775808) : wi ((i : Int) + 1) = ((i + 1 : Nat) : Int) := by rw [s64i (by omega) (by omega)]; omega
theorem w_pred {i : Nat} (h : i < 9223372036854775808) : wi (((i + 1 : Nat) : Int) - 1) = (i : Int) := by rw [s64i (by omega) (by omega)]; omega
theorem wf_u64 {x : Int} (h : (Lit.int .u64 x).wf = true) : 0 ≤ x ∧ x < 18446744073709551616 := by
 simp [Lit.wf, IntKind.min, IntKind.max, IntKind.signed, IntKind.bits] at h; omega
theorem wf_u32 {x : Int} (h : (Lit.int .u32 x).wf = true) : 0 ≤ x ∧ x < 4294967296 := by
 simp [Lit.wf, IntKind.min, IntKind.max, IntKind.signed, IntKind.bits] at h; omega
theorem tm {a b : Int} (h : 0 ≤ a) : Int.tmod a b = a % b := Int.tmod_eq_emod_of_nonneg h
theorem td {a b : Int} (h : 0 ≤ a) : Int.tdiv a b = a / b := Int.tdiv_eq_ediv_of_nonneg h
theorem mul_nn {x y : Int} (hx : 0 ≤ x) (hy : 0 ≤ y) : 0 ≤ x * y := Int.mul_nonneg hx hy
theorem divmod_unique {n d q r : Int} (h : q * d + r = n) (h0 : 0 ≤ r) (h1 : r < d) : n / d = q ∧ n % d = r := by
 subst h
 have hd : 0 < d := by omega
 constructor
 ·rw [Int.add_comm, Int.add_mul_ediv_right _ _ (by omega), Int.ediv_eq_zero_of_lt h0 h1]; omega
 ·rw [Int.add_comm, Int.add_mul_emod_self_right, Int.emod_eq_of_lt h0 h1]
def val (b : Int) : List Int → Int
 | [] => 0
 | x :: l => x + b * val b l
def Dig (b : Int) (l : List Int) : Prop := ∀ x ∈ l, 0 ≤ x ∧ x < b
def Norm : List Int → Prop
 | [] => True
 | [x] => x ≠ 0
 | _ :: y :: l => Norm (y :: l)

theorem val_nil (b : Int) : val b [] = 0 := rfl
theorem val_cons (b x : Int) (l : List Int) : val b (x :: l) = x + b * val b l := rfl
theorem Dig.nil (b : Int) : Dig b [] := fun _ h => by cases h
theorem Dig.cons {b x : Int} {l : List Int} (h : 0 ≤ x ∧ x < b) (hl : Dig b l) : Dig b (x :: l) := fun y hy => by
 rcases List.mem_cons.1 hy with rfl | hy
 ·exact h
 ·exact hl y hy
theorem Dig.head {b x : Int} {l : List Int} (h : Dig b (x :: l)) : 0 ≤ x ∧ x < b := h x (List.mem_cons_self ..)
theorem Dig.tail {b x : Int} {l : List Int} (h : Dig b (x :: l)) : Dig b l := fun y hy => h y (List.mem_cons_of_mem _ hy)
theorem Dig.append {b : Int} {l m : List Int} (h : Dig b l) (g : Dig b m) : Dig b (l ++ m) := fun x hx => by
 rcases List.mem_append.1 hx with hx | hx
 ·exact h x hx
 ·exact g x hx
theorem Dig.take {b : Int} {l : List Int} (h : Dig b l) (n : Nat) : Dig b (l.take n) := fun x hx => h x (List.mem_of_mem_take hx)
theorem Dig.zeros {b : Int} (hb : 0 < b) (n : Nat) : Dig b (List.replicate n 0) := fun x hx => by
 have := (List.mem_replicate.1 hx).2; omega
theorem Dig.set {b x : Int} {l : List Int} (h : Dig b l) (hx : 0 ≤ x ∧ x < b) (i : Nat) : Dig b (l.set i x) := fun y hy => by
 rcases List.mem_or_eq_of_mem_set hy with hy | rfl
 ·exact h y hy
 ·exact hx
theorem Dig.getD {b : Int} {l : List Int} (hb : 0 < b) (h : Dig b l) (i : Nat) : 0 ≤ l.getD i 0 ∧ l.getD i 0 < b := by
 rw [List.getD_eq_getElem?_getD]
 by_cases hi : i < l.length
 ·rw [List.getElem?_eq_getElem hi]; exact h _ (List.getElem_mem hi)
 ·rw [List.getElem?_eq_none (by omega)]; exact ⟨Int.le_refl _, hb⟩
theorem val_nonneg {b : Int} (hb : 0 < b) : ∀ {l : List Int}, Dig b l → 0 ≤ val b l
 | [], _ => by simp [val]
 | x :: l, h => by
  have h1 := val_nonneg hb h.tail
  have h2 := h.head
  have h3 := mul_nn (x := b) (by omega) h1
  rw [val_cons]; omega
theorem powb_pos {b : Int} (hb : 0 < b) (n : Nat) : 0 < b ^ n := Int.pow_pos hb
theorem val_lt {b : Int} (hb : 0 < b) : ∀ {l : List Int}, Dig b l → val b l < b ^ l.length
 | [], _ => by simp [val]
 | x :: l, h => by
  have h1 := val_lt hb h.tail
  have h2 := h.head
  have h3 : b * (val b l + 1) ≤ b * b ^ l.length := Int.mul_le_mul_of_nonneg_left (by omega) (by omega)
  rw [val_cons, List.length_cons, Int.pow_succ, Int.mul_comm (b ^ l.length)]
  rw [Int.mul_add, Int.mul_one] at h3
  omega
theorem val_append (b : Int) : ∀ (l m : List Int), val b (l ++ m) = val b l + b ^ l.length * val b m
 | [], m => by simp [val]
 | x :: l, m => by
  rw [List.cons_append, val_cons, val_cons, val_append b l m, List.length_cons, Int.pow_succ]
  rw [Int.mul_add, Int.mul_comm (b ^ l.length) b, Int.mul_assoc]; omega
theorem val_zeros (b : Int) : ∀ n : Nat, val b (List.replicate n 0) = 0
 | 0 => rfl
 | n + 1 => by rw [List.replicate_succ, val_cons, val_zeros b n]; simp
theorem val_snoc (b x : Int) (l : List Int) : val b (l ++ [x]) = val b l + b ^ l.length * x := by
 rw [val_append]; simp [val]
theorem val_take_drop (b : Int) (l : List Int) (n : Nat) (hn : n ≤ l.length) : val b l = val b (l.take n) + b ^ n * val b (l.drop n) := by
 conv => lhs; rw [← List.take_append_drop n l]
 rw [val_append, List.length_take, Nat.min_eq_left hn]
theorem drop_cons_getD (l : List Int) (i : Nat) (h : i < l.length) : l.drop i = l.getD i 0 :: l.drop (i + 1) := by
 rw [List.drop_eq_getElem_cons h, List.getD_eq_getElem?_getD, List.getElem?_eq_getElem h]; rfl
theorem take_snoc_getD (l : List Int) (i : Nat) (h : i < l.length) : l.take (i + 1) = l.take i ++ [l.getD i 0] := by
 rw [List.take_succ_eq_append_getElem h, List.getD_eq_getElem?_getD, List.getElem?_eq_getElem h]; rfl
theorem val_take_succ (b : Int) (l : List Int) (i : Nat) (h : i < l.length) : val b (l.take (i + 1)) = val b (l.take i) + b ^ i * l.getD i 0 := by
 rw [take_snoc_getD l i h, val_snoc, List.length_take, Nat.min_eq_left (by omega)]
theorem val_drop (b : Int) (l : List Int) (i : Nat) (h : i < l.length) : val b (l.drop i) = l.getD i 0 + b * val b (l.drop (i + 1)) := by
 rw [drop_cons_getD l i h, val_cons]
theorem norm_snoc (l : List Int) (x : Int) : Norm (l ++ [x]) ↔ x ≠ 0 := by
 induction l with
 | nil => simp [Norm]
 | cons y l ih =>
  cases l with
  | nil => simp [Norm]
  | cons z l => exact ih
theorem norm_le {b : Int} (hb : 0 < b) {l : List Int} (h : Dig b l) (hn : Norm l) (hl : l ≠ []) : b ^ (l.length - 1) ≤ val b l := by
 rcases List.eq_nil_or_concat l with rfl | ⟨m, x, rfl⟩
 ·exact absurd rfl hl
 ·rw [List.concat_eq_append] at *
  rw [norm_snoc] at hn
  have hx := h x (by simp)
  have hm : Dig b m := fun y hy => h y (by simp [hy])
  have h0 := val_nonneg hb hm
  rw [val_snoc, List.length_append]
  simp only [List.length_cons, List.length_nil, Nat.zero_add, Nat.add_sub_cancel]
  have : b ^ m.length * 1 ≤ b ^ m.length * x := Int.mul_le_mul_of_nonneg_left (by omega) (Int.le_of_lt (powb_pos hb _))
  omega
theorem powb_mono {b : Int} (hb : 0 < b) {m n : Nat} (h : m ≤ n) : b ^ m ≤ b ^ n := by
 induction h with
 | refl => exact Int.le_refl _
 | step h ih =>
  rename_i k
  rw [Int.pow_succ]
  have : b ^ k * 1 ≤ b ^ k * b := Int.mul_le_mul_of_nonneg_left (by omega) (Int.le_of_lt (powb_pos hb _))
  omega
theorem val_inj_len {b : Int} (hb : 0 < b) : ∀ {l m : List Int}, Dig b l → Dig b m → l.length = m.length → val b l = val b m → l = m
 | [], [], _, _, _, _ => rfl
 | [], y :: m, _, _, h, _ => by simp at h
 | x :: l, [], _, _, h, _ => by simp at h
 | x :: l, y :: m, hl, hm, h, he => by
  have h1 := hl.head
  have h2 := hm.head
  rw [val_cons, val_cons] at he
  have e1 := divmod_unique (n := x + b * val b l) (d := b) (q := val b l) (r := x) (by rw [Int.mul_comm]; omega) h1.1 h1.2
  have e2 := divmod_unique (n := x + b * val b l) (d := b) (q := val b m) (r := y) (by rw [he, Int.mul_comm]; omega) h2.1 h2.2
  have hxy : x = y := e1.2.symm.trans e2.2
  have hv : val b l = val b m := e1.1.symm.trans e2.1
  rw [hxy, val_inj_len hb hl.tail hm.tail (by simpa using h) hv]
theorem norm_len_le {b : Int} (hb : 0 < b) {l m : List Int} (hl : Dig b l) (nl : Norm l) (hm : Dig b m) (he : val b l ≤ val b m) : l.length ≤ m.length := by
 by_cases h : l = []
 ·subst h; simp
 ·have h1 := norm_le hb hl nl h
  have h2 := val_lt hb hm
  have hlen : 0 < l.length := by cases l with | nil => exact absurd rfl h | cons => simp
  by_cases hc : l.length ≤ m.length
  ·exact hc
  ·have := powb_mono hb (show m.length ≤ l.length - 1 by omega)
   omega
theorem val_inj {b : Int} (hb : 0 < b) {l m : List Int} (hl : Dig b l) (nl : Norm l) (hm : Dig b m) (nm : Norm m) (he : val b l = val b m) : l = m :=
 val_inj_len hb hl hm (Nat.le_antisymm (norm_len_le hb hl nl hm (by omega)) (norm_len_le hb hm nm hl (by omega))) he
def digs (b : Nat) (x : Nat) : List Int :=
 if h : 2 ≤ b ∧ 0 < x then ((x % b : Nat) : Int) :: digs b (x / b) else []
termination_by x
decreasing_by exact Nat.div_lt_self h.2 h.1
theorem digs_zero (b : Nat) : digs b 0 = [] := by rw [digs]; simp
theorem digs_pos {b x : Nat} (hb : 2 ≤ b) (hx : 0 < x) : digs b x = ((x % b : Nat) : Int) :: digs b (x / b) := by
 rw [digs, dif_pos ⟨hb, hx⟩]
theorem digs_ind {P : Nat → Prop} (b : Nat) (hb : 2 ≤ b) (h0 : P 0) (hs : ∀ x, 0 < x → P (x / b) → P x) (x : Nat) : P x := by
 induction x using Nat.strongRecOn with
 | _ x ih =>
  rcases Nat.eq_zero_or_pos x with rfl | hx
  ·exact h0
  ·exact hs x hx (ih _ (Nat.div_lt_self hx hb))
theorem digs_dig {b : Nat} (hb : 2 ≤ b) (x : Nat) : Dig (b : Int) (digs b x) := by
 refine digs_ind (P := fun x => Dig (b : Int) (digs b x)) b hb (by rw [digs_zero]; exact Dig.nil _) (fun x hx ih => ?_) x
 rw [digs_pos hb hx]
 refine Dig.cons ⟨Int.natCast_nonneg _, ?_⟩ ih
 have := Nat.mod_lt x (show 0 < b by omega)
 omega
theorem digs_val {b : Nat} (hb : 2 ≤ b) (x : Nat) : val (b : Int) (digs b x) = (x : Int) := by
 refine digs_ind (P := fun x => val (b : Int) (digs b x) = (x : Int)) b hb (by rw [digs_zero]; rfl) (fun x hx ih => ?_) x
 rw [digs_pos hb hx, val_cons, ih, ← Int.natCast_mul, ← Int.natCast_add]
 congr 1
 exact Nat.mod_add_div x b
theorem digs_norm {b : Nat} (hb : 2 ≤ b) (x : Nat) : Norm (digs b x) := by
 refine digs_ind (P := fun x => Norm (digs b x)) b hb (by rw [digs_zero]; trivial) (fun x hx ih => ?_) x
 rw [digs_pos hb hx]
 rcases Nat.eq_zero_or_pos (x / b) with h | h
 ·rw [h, digs_zero]
  show ((x % b : Nat) : Int) ≠ 0
  have := Nat.mod_add_div x b
  rw [h, Nat.mul_zero] at this
  omega
 ·rw [digs_pos hb h] at ih ⊢
  exact ih
theorem eq_digs {b : Nat} (hb : 2 ≤ b) {l : List Int} (hl : Dig (b : Int) l) (hn : Norm l) {x : Nat} (hx : val (b : Int) l = (x : Int)) : l = digs b x :=
 val_inj (b := (b : Int)) (by omega) hl hn (digs_dig hb x) (digs_norm hb x) (by rw [digs_val hb, hx])
theorem digs_inj {b : Nat} (hb : 2 ≤ b) {x y : Nat} (h : digs b x = digs b y) : x = y := by
 have := congrArg (val (b : Int)) h
 rw [digs_val hb, digs_val hb] at this
 omega
theorem digs_nil {b : Nat} (hb : 2 ≤ b) {x : Nat} : digs b x = [] ↔ x = 0 :=
 ⟨fun h => digs_inj hb (h.trans (digs_zero b).symm), fun h => by rw [h, digs_zero]⟩
theorem digs_len_le {b : Nat} (hb : 2 ≤ b) {x n : Nat} : (digs b x).length ≤ n ↔ x < b ^ n := by
 constructor
 ·intro h
  have h1 := val_lt (b := (b : Int)) (by omega) (digs_dig hb x)
  rw [digs_val hb] at h1
  have h2 := powb_mono (b := (b : Int)) (by omega) h
  have h3 : (x : Int) < (b : Int) ^ n := by omega
  exact_mod_cast h3
 ·intro h
  rcases Nat.lt_or_ge n (digs b x).length with h1 | h1
  ·have hne : digs b x ≠ [] := fun he => by rw [he] at h1; simp at h1
   have h2 := norm_le (b := (b : Int)) (by omega) (digs_dig hb x) (digs_norm hb x) hne
   have h3 := powb_mono (b := (b : Int)) (by omega) (show n ≤ (digs b x).length - 1 by omega)
   rw [digs_val hb] at h2
   have h4 : (b : Int) ^ n ≤ (x : Int) := by omega
   have h5 : b ^ n ≤ x := by exact_mod_cast h4
   omega
  ·exact h1
theorem digs_len_mono {b : Nat} (hb : 2 ≤ b) {x y : Nat} (h : x ≤ y) : (digs b x).length ≤ (digs b y).length :=
 (digs_len_le hb).2 (Nat.lt_of_le_of_lt h ((digs_len_le hb).1 (Nat.le_refl _)))
theorem digs_one {b : Nat} {x : Nat} (hb : 2 ≤ b) (hx : 0 < x) (h : x < b) : digs b x = [(x : Int)] := by
 rw [digs_pos hb hx, Nat.div_eq_of_lt h, Nat.mod_eq_of_lt h, digs_zero]

abbrev lim (x : Nat) : List Int := digs 4294967296 x
abbrev ten (x : Nat) : List Int := digs 10000 x
abbrev vb (l : List Int) : Int := val 4294967296 l
theorem lim_dig (x : Nat) : Dig 4294967296 (lim x) := digs_dig (b := 4294967296) (by omega) x
theorem lim_val (x : Nat) : val 4294967296 (lim x) = (x : Int) := digs_val (b := 4294967296) (by omega) x
theorem eq_lim {l : List Int} (hl : Dig 4294967296 l) (hn : Norm l) {x : Nat} (hx : val 4294967296 l = (x : Int)) : l = lim x := eq_digs (b := 4294967296) (by omega) hl hn hx
theorem lim_nil {x : Nat} : lim x = [] ↔ x = 0 := digs_nil (by omega)
theorem lim_len {x n : Nat} : (lim x).length ≤ n ↔ x < 4294967296 ^ n := digs_len_le (by omega)
theorem ten_dig (x : Nat) : Dig 10000 (ten x) := digs_dig (b := 10000) (by omega) x
theorem ten_val (x : Nat) : val 10000 (ten x) = (x : Int) := digs_val (b := 10000) (by omega) x
theorem ten_nil {x : Nat} : ten x = [] ↔ x = 0 := digs_nil (by omega)
theorem ten_len {x n : Nat} : (ten x).length ≤ n ↔ x < 10000 ^ n := digs_len_le (by omega)
theorem toNat_val {b : Int} (hb : 0 < b) {l : List Int} (h : Dig b l) : ((val b l).toNat : Int) = val b l := Int.toNat_of_nonneg (val_nonneg hb h)

theorem getD_ge {l : List Int} {i : Nat} (h : l.length ≤ i) : l.getD i 0 = 0 := by
 rw [List.getD_eq_getElem?_getD, List.getElem?_eq_none h]; rfl
theorem getD_set_eq {l : List Int} {i : Nat} (h : i < l.length) (v : Int) : (l.set i v).getD i 0 = v := by
 rw [List.getD_eq_getElem?_getD, List.getElem?_set_self h]; rfl
theorem val_take_succ' (b : Int) (l : List Int) (i : Nat) : val b (l.take (i + 1)) = val b (l.take i) + b ^ i * l.getD i 0 := by
 by_cases h : i < l.length
 ·exact val_take_succ b l i h
 ·rw [List.take_of_length_le (by omega), List.take_of_length_le (by omega), getD_ge (by omega)]; simp
theorem val_take_zeros (b : Int) (l : List Int) (n : Nat) (h : ∀ j, n ≤ j → l.getD j 0 = 0) : val b (l.take n) = val b l := by
 have key : ∀ d, val b (l.take (n + d)) = val b (l.take n) := by
  intro d
  induction d with
  | zero => rfl
  | succ d ih => rw [← Nat.add_assoc, val_take_succ', h (n + d) (by omega), ih]; simp
 have := key l.length
 rw [List.take_of_length_le (show l.length ≤ n + l.length by omega)] at this
 exact this.symm
theorem norm_take {l : List Int} {n : Nat} (hn : n < l.length) (h : l.getD n 0 ≠ 0) : Norm (l.take (n + 1)) := by
 rw [take_snoc_getD l n hn]
 exact (norm_snoc _ _).2 h
theorem take_digs {b : Nat} (hb : 2 ≤ b) {l : List Int} (hl : Dig (b : Int) l) {n : Nat} (hn : n < l.length) (hz : ∀ j, n + 1 ≤ j → l.getD j 0 = 0) (h : l.getD n 0 ≠ 0) {x : Nat} (hx : val (b : Int) l = (x : Int)) : l.take (n + 1) = digs b x :=
 eq_digs hb (hl.take _) (norm_take hn h) (by rw [val_take_zeros _ _ _ hz, hx])
theorem val_all_zeros (b : Int) (l : List Int) (hz : ∀ j, l.getD j 0 = 0) : val b l = 0 := by
 have := val_take_zeros b l 0 (fun j _ => hz j)
 rw [← this]; rfl

theorem pow32 (n : Nat) : ((4294967296 ^ n : Nat) : Int) = (4294967296 : Int) ^ n := by rw [Int.natCast_pow]; rfl
theorem lim_take (x n : Nat) : val 4294967296 ((lim x).take n) = ((x % 4294967296 ^ n : Nat) : Int) ∧ val 4294967296 ((lim x).drop n) = ((x / 4294967296 ^ n : Nat) : Int) := by
 by_cases hn : n ≤ (lim x).length
 ·have h := val_take_drop 4294967296 (lim x) n hn
  rw [lim_val] at h
  have h0 := val_nonneg (b := 4294967296) (by omega) ((lim_dig x).take n)
  have h1 := val_lt (b := 4294967296) (by omega) ((lim_dig x).take n)
  rw [List.length_take, Nat.min_eq_left hn] at h1
  have hu := divmod_unique (n := (x : Int)) (d := 4294967296 ^ n) (q := val 4294967296 ((lim x).drop n)) (r := val 4294967296 ((lim x).take n)) (by rw [Int.mul_comm, h]; omega) h0 h1
  constructor
  ·rw [← hu.2, Int.natCast_emod, pow32]
  ·rw [← hu.1, Int.natCast_ediv, pow32]
 ·have hlt : x < 4294967296 ^ n := lim_len.1 (by omega)
  rw [List.take_of_length_le (by omega), List.drop_eq_nil_of_le (by omega), lim_val, Nat.mod_eq_of_lt hlt, Nat.div_eq_of_lt hlt]
  exact ⟨rfl, rfl⟩
end Go.Proofs.YtfijdkdpcjfiaaaGreatA
