/- Any number times a limb, and more, is as the document says: the program's product and the reference's are the same limbs, for every slice of limbs, multiplier and addend. No condition. -/
import Derived.Test.YtcmajlphfnihgaaPMulSmallsx5
import Derived.Test.YtcmajlphfnihgaaBase
set_option linter.unusedVariables false
set_option linter.unusedSimpArgs false
namespace Go.Proofs.Ytcmajlphfnihgaa.Pure
open Go Go.RowKit Go.Proofs.Ytcmajlphfnihgaa.PMulSmalls Go.Proofs.YtcmajlphfnihgaaW.PrintWords Go.Proofs.YtcmajlphfnihgaaW.PrintLast Go.Proofs.YtcmajlphfnihgaaW.PrintMore Go.Proofs.Ytcmajlphfnihgaa.B

/-! ### numbers as rows of digits of a base, the lowest first -/
def val (b : Int) : List Int → Int
  | [] => 0
  | x :: l => x + b * val b l
def Dig (b : Int) (l : List Int) : Prop := ∀ x ∈ l, 0 ≤ x ∧ x < b
/-- The last one is not 0. -/
def Norm : List Int → Prop
  | [] => True
  | [x] => x ≠ 0
  | _ :: y :: l => Norm (y :: l)

theorem val_nil (b : Int) : val b [] = 0 := rfl
theorem val_cons (b x : Int) (l : List Int) : val b (x :: l) = x + b * val b l := rfl
theorem Dig.nil (b : Int) : Dig b [] := fun _ h => by cases h
theorem Dig.cons {b x : Int} {l : List Int} (h : 0 ≤ x ∧ x < b) (hl : Dig b l) : Dig b (x :: l) := fun y hy => by
  rcases List.mem_cons.1 hy with rfl | hy
  · exact h
  · exact hl y hy
theorem Dig.head {b x : Int} {l : List Int} (h : Dig b (x :: l)) : 0 ≤ x ∧ x < b := h x (List.mem_cons_self ..)
theorem Dig.tail {b x : Int} {l : List Int} (h : Dig b (x :: l)) : Dig b l := fun y hy => h y (List.mem_cons_of_mem _ hy)
theorem Dig.append {b : Int} {l m : List Int} (h : Dig b l) (g : Dig b m) : Dig b (l ++ m) := fun x hx => by
  rcases List.mem_append.1 hx with hx | hx
  · exact h x hx
  · exact g x hx
theorem Dig.take {b : Int} {l : List Int} (h : Dig b l) (n : Nat) : Dig b (l.take n) := fun x hx => h x (List.mem_of_mem_take hx)
theorem Dig.drop {b : Int} {l : List Int} (h : Dig b l) (n : Nat) : Dig b (l.drop n) := fun x hx => h x (List.mem_of_mem_drop hx)
theorem Dig.zeros {b : Int} (hb : 0 < b) (n : Nat) : Dig b (List.replicate n 0) := fun x hx => by
  have := (List.mem_replicate.1 hx).2; omega
theorem Dig.set {b x : Int} {l : List Int} (h : Dig b l) (hx : 0 ≤ x ∧ x < b) (i : Nat) : Dig b (l.set i x) := fun y hy => by
  rcases List.mem_or_eq_of_mem_set hy with hy | rfl
  · exact h y hy
  · exact hx
theorem Dig.getD {b : Int} {l : List Int} (hb : 0 < b) (h : Dig b l) (i : Nat) : 0 ≤ l.getD i 0 ∧ l.getD i 0 < b := by
  rw [List.getD_eq_getElem?_getD]
  by_cases hi : i < l.length
  · rw [List.getElem?_eq_getElem hi]; exact h _ (List.getElem_mem hi)
  · rw [List.getElem?_eq_none (by omega)]; exact ⟨Int.le_refl _, hb⟩
theorem val_nonneg {b : Int} (hb : 0 < b) : ∀ {l : List Int}, Dig b l → 0 ≤ val b l
  | [], _ => by simp [val]
  | x :: l, h => by
    have h1 := val_nonneg hb h.tail
    have h2 := h.head
    have h3 := mul_nn (x := b) (by omega) h1
    rw [val_cons]; omega
theorem powb_pos {b : Int} (hb : 0 < b) (n : Nat) : 0 < b ^ n := Int.pow_pos hb
theorem val_lt {b : Int} (hb : 0 < b) : ∀ {l : List Int}, Dig b l → val b l < b ^ l.length
  | [], _ => by simp [val]
  | x :: l, h => by
    have h1 := val_lt hb h.tail
    have h2 := h.head
    have h3 : b * (val b l + 1) ≤ b * b ^ l.length := Int.mul_le_mul_of_nonneg_left (by omega) (by omega)
    rw [val_cons, List.length_cons, Int.pow_succ, Int.mul_comm (b ^ l.length)]
    rw [Int.mul_add, Int.mul_one] at h3
    omega
theorem val_append (b : Int) : ∀ (l m : List Int), val b (l ++ m) = val b l + b ^ l.length * val b m
  | [], m => by simp [val]
  | x :: l, m => by
    rw [List.cons_append, val_cons, val_cons, val_append b l m, List.length_cons, Int.pow_succ]
    rw [Int.mul_add, Int.mul_comm (b ^ l.length) b, Int.mul_assoc]; omega
theorem val_zeros (b : Int) : ∀ n : Nat, val b (List.replicate n 0) = 0
  | 0 => rfl
  | n + 1 => by rw [List.replicate_succ, val_cons, val_zeros b n]; simp
theorem val_snoc (b x : Int) (l : List Int) : val b (l ++ [x]) = val b l + b ^ l.length * x := by
  rw [val_append]; simp [val]
theorem val_take_drop (b : Int) (l : List Int) (n : Nat) (hn : n ≤ l.length) : val b l = val b (l.take n) + b ^ n * val b (l.drop n) := by
  conv => lhs; rw [← List.take_append_drop n l]
  rw [val_append, List.length_take, Nat.min_eq_left hn]
theorem val_set (b x : Int) : ∀ (l : List Int) (i : Nat), i < l.length → val b (l.set i x) = val b l + b ^ i * (x - l.getD i 0)
  | [], i, h => by simp at h
  | y :: l, 0, _ => by simp [val]; omega
  | y :: l, i + 1, h => by
    have := val_set b x l i (by simpa using h)
    rw [List.set_cons_succ, val_cons, val_cons, this, Int.pow_succ, List.getD_cons_succ]
    rw [Int.mul_add, Int.mul_comm (b ^ i) b, Int.mul_assoc]; omega
theorem drop_cons_getD (l : List Int) (i : Nat) (h : i < l.length) : l.drop i = l.getD i 0 :: l.drop (i + 1) := by
  rw [List.drop_eq_getElem_cons h, List.getD_eq_getElem?_getD, List.getElem?_eq_getElem h]; rfl
theorem take_snoc_getD (l : List Int) (i : Nat) (h : i < l.length) : l.take (i + 1) = l.take i ++ [l.getD i 0] := by
  rw [List.take_succ_eq_append_getElem h, List.getD_eq_getElem?_getD, List.getElem?_eq_getElem h]; rfl
theorem val_take_succ (b : Int) (l : List Int) (i : Nat) (h : i < l.length) : val b (l.take (i + 1)) = val b (l.take i) + b ^ i * l.getD i 0 := by
  rw [take_snoc_getD l i h, val_snoc, List.length_take, Nat.min_eq_left (by omega)]
theorem val_drop (b : Int) (l : List Int) (i : Nat) (h : i < l.length) : val b (l.drop i) = l.getD i 0 + b * val b (l.drop (i + 1)) := by
  rw [drop_cons_getD l i h, val_cons]
theorem norm_snoc (l : List Int) (x : Int) : Norm (l ++ [x]) ↔ x ≠ 0 := by
  induction l with
  | nil => simp [Norm]
  | cons y l ih =>
    cases l with
    | nil => simp [Norm]
    | cons z l => exact ih
theorem norm_iff (l : List Int) : Norm l ↔ (l = [] ∨ l.getD (l.length - 1) 0 ≠ 0) := by
  rcases List.eq_nil_or_concat l with rfl | ⟨m, x, rfl⟩
  · simp [Norm]
  · rw [List.concat_eq_append, norm_snoc]
    simp [List.getD_eq_getElem?_getD]
/-- What is put in order from the top is at least so great. -/
theorem norm_le {b : Int} (hb : 0 < b) {l : List Int} (h : Dig b l) (hn : Norm l) (hl : l ≠ []) : b ^ (l.length - 1) ≤ val b l := by
  rcases List.eq_nil_or_concat l with rfl | ⟨m, x, rfl⟩
  · exact absurd rfl hl
  · rw [List.concat_eq_append] at *
    rw [norm_snoc] at hn
    have hx := h x (by simp)
    have hm : Dig b m := fun y hy => h y (by simp [hy])
    have h0 := val_nonneg hb hm
    rw [val_snoc, List.length_append]
    simp only [List.length_cons, List.length_nil, Nat.zero_add, Nat.add_sub_cancel]
    have : b ^ m.length * 1 ≤ b ^ m.length * x := Int.mul_le_mul_of_nonneg_left (by omega) (Int.le_of_lt (powb_pos hb _))
    omega
theorem powb_mono {b : Int} (hb : 0 < b) {m n : Nat} (h : m ≤ n) : b ^ m ≤ b ^ n := by
  induction h with
  | refl => exact Int.le_refl _
  | step h ih =>
    rename_i k
    rw [Int.pow_succ]
    have : b ^ k * 1 ≤ b ^ k * b := Int.mul_le_mul_of_nonneg_left (by omega) (Int.le_of_lt (powb_pos hb _))
    omega
theorem val_inj_len {b : Int} (hb : 0 < b) : ∀ {l m : List Int}, Dig b l → Dig b m → l.length = m.length → val b l = val b m → l = m
  | [], [], _, _, _, _ => rfl
  | [], y :: m, _, _, h, _ => by simp at h
  | x :: l, [], _, _, h, _ => by simp at h
  | x :: l, y :: m, hl, hm, h, he => by
    have h1 := hl.head
    have h2 := hm.head
    rw [val_cons, val_cons] at he
    have e1 := divmod_unique (n := x + b * val b l) (d := b) (q := val b l) (r := x) (by rw [Int.mul_comm]; omega) h1.1 h1.2
    have e2 := divmod_unique (n := x + b * val b l) (d := b) (q := val b m) (r := y) (by rw [he, Int.mul_comm]; omega) h2.1 h2.2
    have hxy : x = y := e1.2.symm.trans e2.2
    have hv : val b l = val b m := e1.1.symm.trans e2.1
    rw [hxy, val_inj_len hb hl.tail hm.tail (by simpa using h) hv]
theorem norm_len_le {b : Int} (hb : 0 < b) {l m : List Int} (hl : Dig b l) (nl : Norm l) (hm : Dig b m) (he : val b l ≤ val b m) : l.length ≤ m.length := by
  by_cases h : l = []
  · subst h; simp
  · have h1 := norm_le hb hl nl h
    have h2 := val_lt hb hm
    have hlen : 0 < l.length := by cases l with | nil => exact absurd rfl h | cons => simp
    by_cases hc : l.length ≤ m.length
    · exact hc
    · have := powb_mono hb (show m.length ≤ l.length - 1 by omega)
      omega
theorem val_inj {b : Int} (hb : 0 < b) {l m : List Int} (hl : Dig b l) (nl : Norm l) (hm : Dig b m) (nm : Norm m) (he : val b l = val b m) : l = m :=
  val_inj_len hb hl hm (Nat.le_antisymm (norm_len_le hb hl nl hm (by omega)) (norm_len_le hb hm nm hl (by omega))) he
theorem norm_zero {b : Int} (hb : 0 < b) {l : List Int} (hl : Dig b l) (nl : Norm l) (he : val b l = 0) : l = [] :=
  val_inj hb hl nl (Dig.nil b) trivial (by rw [he]; rfl)
theorem norm_pos {b : Int} (hb : 0 < b) {l : List Int} (hl : Dig b l) (nl : Norm l) (h : l ≠ []) : 0 < val b l := by
  have := norm_le hb hl nl h
  have := powb_pos hb (l.length - 1)
  omega
theorem val_drop_zero {b : Int} (hb : 0 < b) {l : List Int} (hl : Dig b l) (n : Nat) (h : val b l < b ^ n) : val b (l.drop n) = 0 := by
  by_cases hn : n ≤ l.length
  · have h1 := val_take_drop b l n hn
    have h2 := val_nonneg hb (hl.take n)
    have h3 := val_nonneg hb (hl.drop n)
    by_cases hz : val b (l.drop n) = 0
    · exact hz
    · have : b ^ n * 1 ≤ b ^ n * val b (l.drop n) := Int.mul_le_mul_of_nonneg_left (by omega) (Int.le_of_lt (powb_pos hb n))
      omega
  · rw [List.drop_eq_nil_of_le (by omega)]; rfl

/-! ### the digits of a number; what holds from some number of rounds on -/
def digs (b : Nat) (x : Nat) : List Int :=
  if h : 2 ≤ b ∧ 0 < x then ((x % b : Nat) : Int) :: digs b (x / b) else []
termination_by x
decreasing_by exact Nat.div_lt_self h.2 h.1
theorem digs_zero (b : Nat) : digs b 0 = [] := by rw [digs]; simp
theorem digs_pos {b x : Nat} (hb : 2 ≤ b) (hx : 0 < x) : digs b x = ((x % b : Nat) : Int) :: digs b (x / b) := by
  rw [digs, dif_pos ⟨hb, hx⟩]
theorem digs_ind {P : Nat → Prop} (b : Nat) (hb : 2 ≤ b) (h0 : P 0) (hs : ∀ x, 0 < x → P (x / b) → P x) (x : Nat) : P x := by
  induction x using Nat.strongRecOn with
  | _ x ih =>
    rcases Nat.eq_zero_or_pos x with rfl | hx
    · exact h0
    · exact hs x hx (ih _ (Nat.div_lt_self hx hb))
theorem digs_dig {b : Nat} (hb : 2 ≤ b) (x : Nat) : Dig (b : Int) (digs b x) := by
  refine digs_ind (P := fun x => Dig (b : Int) (digs b x)) b hb (by rw [digs_zero]; exact Dig.nil _) (fun x hx ih => ?_) x
  rw [digs_pos hb hx]
  refine Dig.cons ⟨Int.natCast_nonneg _, ?_⟩ ih
  have := Nat.mod_lt x (show 0 < b by omega)
  omega
theorem digs_val {b : Nat} (hb : 2 ≤ b) (x : Nat) : val (b : Int) (digs b x) = (x : Int) := by
  refine digs_ind (P := fun x => val (b : Int) (digs b x) = (x : Int)) b hb (by rw [digs_zero]; rfl) (fun x hx ih => ?_) x
  rw [digs_pos hb hx, val_cons, ih, ← Int.natCast_mul, ← Int.natCast_add]
  congr 1
  exact Nat.mod_add_div x b
theorem digs_norm {b : Nat} (hb : 2 ≤ b) (x : Nat) : Norm (digs b x) := by
  refine digs_ind (P := fun x => Norm (digs b x)) b hb (by rw [digs_zero]; trivial) (fun x hx ih => ?_) x
  rw [digs_pos hb hx]
  rcases Nat.eq_zero_or_pos (x / b) with h | h
  · rw [h, digs_zero]
    show ((x % b : Nat) : Int) ≠ 0
    have := Nat.mod_add_div x b
    rw [h, Nat.mul_zero] at this
    omega
  · rw [digs_pos hb h] at ih ⊢
    exact ih
theorem eq_digs {b : Nat} (hb : 2 ≤ b) {l : List Int} (hl : Dig (b : Int) l) (hn : Norm l) {x : Nat} (hx : val (b : Int) l = (x : Int)) : l = digs b x :=
  val_inj (b := (b : Int)) (by omega) hl hn (digs_dig hb x) (digs_norm hb x) (by rw [digs_val hb, hx])
theorem digs_inj {b : Nat} (hb : 2 ≤ b) {x y : Nat} (h : digs b x = digs b y) : x = y := by
  have := congrArg (val (b : Int)) h
  rw [digs_val hb, digs_val hb] at this
  omega
theorem digs_nil {b : Nat} (hb : 2 ≤ b) {x : Nat} : digs b x = [] ↔ x = 0 :=
  ⟨fun h => digs_inj hb (h.trans (digs_zero b).symm), fun h => by rw [h, digs_zero]⟩
theorem digs_len_le {b : Nat} (hb : 2 ≤ b) {x n : Nat} : (digs b x).length ≤ n ↔ x < b ^ n := by
  constructor
  · intro h
    have h1 := val_lt (b := (b : Int)) (by omega) (digs_dig hb x)
    rw [digs_val hb] at h1
    have h2 := powb_mono (b := (b : Int)) (by omega) h
    have h3 : (x : Int) < (b : Int) ^ n := by omega
    exact_mod_cast h3
  · intro h
    rcases Nat.lt_or_ge n (digs b x).length with h1 | h1
    · have hne : digs b x ≠ [] := fun he => by rw [he] at h1; simp at h1
      have h2 := norm_le (b := (b : Int)) (by omega) (digs_dig hb x) (digs_norm hb x) hne
      have h3 := powb_mono (b := (b : Int)) (by omega) (show n ≤ (digs b x).length - 1 by omega)
      rw [digs_val hb] at h2
      have h4 : (b : Int) ^ n ≤ (x : Int) := by omega
      have h5 : b ^ n ≤ x := by exact_mod_cast h4
      omega
    · exact h1
theorem digs_len_mono {b : Nat} (hb : 2 ≤ b) {x y : Nat} (h : x ≤ y) : (digs b x).length ≤ (digs b y).length :=
  (digs_len_le hb).2 (Nat.lt_of_le_of_lt h ((digs_len_le hb).1 (Nat.le_refl _)))
theorem digs_one {b : Nat} {x : Nat} (hb : 2 ≤ b) (hx : 0 < x) (h : x < b) : digs b x = [(x : Int)] := by
  rw [digs_pos hb hx, Nat.div_eq_of_lt h, Nat.mod_eq_of_lt h, digs_zero]

abbrev lim (x : Nat) : List Int := digs 4294967296 x
abbrev ten (x : Nat) : List Int := digs 10000 x
abbrev vb (l : List Int) : Int := val 4294967296 l
theorem lim_dig (x : Nat) : Dig 4294967296 (lim x) := digs_dig (b := 4294967296) (by omega) x
theorem lim_norm (x : Nat) : Norm (lim x) := digs_norm (by omega) x
theorem lim_val (x : Nat) : val 4294967296 (lim x) = (x : Int) := digs_val (b := 4294967296) (by omega) x
theorem eq_lim {l : List Int} (hl : Dig 4294967296 l) (hn : Norm l) {x : Nat} (hx : val 4294967296 l = (x : Int)) : l = lim x := eq_digs (b := 4294967296) (by omega) hl hn hx
theorem lim_nil {x : Nat} : lim x = [] ↔ x = 0 := digs_nil (by omega)
theorem lim_len {x n : Nat} : (lim x).length ≤ n ↔ x < 4294967296 ^ n := digs_len_le (by omega)
theorem lim_inj {x y : Nat} (h : lim x = lim y) : x = y := digs_inj (by omega) h
theorem ten_dig (x : Nat) : Dig 10000 (ten x) := digs_dig (b := 10000) (by omega) x
theorem ten_norm (x : Nat) : Norm (ten x) := digs_norm (by omega) x
theorem ten_val (x : Nat) : val 10000 (ten x) = (x : Int) := digs_val (b := 10000) (by omega) x
theorem eq_ten {l : List Int} (hl : Dig 10000 l) (hn : Norm l) {x : Nat} (hx : val 10000 l = (x : Int)) : l = ten x := eq_digs (b := 10000) (by omega) hl hn hx
theorem ten_nil {x : Nat} : ten x = [] ↔ x = 0 := digs_nil (by omega)
theorem ten_len {x n : Nat} : (ten x).length ≤ n ↔ x < 10000 ^ n := digs_len_le (by omega)
theorem ten_inj {x y : Nat} (h : ten x = ten y) : x = y := digs_inj (by omega) h
theorem toNat_val {b : Int} (hb : 0 < b) {l : List Int} (h : Dig b l) : ((val b l).toNat : Int) = val b l := Int.toNat_of_nonneg (val_nonneg hb h)

theorem rd_nat (l : List Int) (i : Nat) : rd l (i : Int) = l.getD i 0 := rfl
theorem getD_ge {l : List Int} {i : Nat} (h : l.length ≤ i) : l.getD i 0 = 0 := by
  rw [List.getD_eq_getElem?_getD, List.getElem?_eq_none h]; rfl
theorem getD_set_eq {l : List Int} {i : Nat} (h : i < l.length) (v : Int) : (l.set i v).getD i 0 = v := by
  rw [List.getD_eq_getElem?_getD, List.getElem?_set_self h]; rfl
theorem getD_set_ne {l : List Int} {i j : Nat} (h : i ≠ j) (v : Int) : (l.set i v).getD j 0 = l.getD j 0 := by
  rw [List.getD_eq_getElem?_getD, List.getElem?_set_ne h, ← List.getD_eq_getElem?_getD]
theorem getD_zeros (n i : Nat) : (List.replicate n (0 : Int)).getD i 0 = 0 := by
  rw [List.getD_eq_getElem?_getD]
  by_cases h : i < n
  · rw [List.getElem?_replicate, if_pos h]; rfl
  · rw [List.getElem?_replicate, if_neg h]; rfl
theorem val_take_succ' (b : Int) (l : List Int) (i : Nat) : val b (l.take (i + 1)) = val b (l.take i) + b ^ i * l.getD i 0 := by
  by_cases h : i < l.length
  · exact val_take_succ b l i h
  · rw [List.take_of_length_le (by omega), List.take_of_length_le (by omega), getD_ge (by omega)]; simp
/-- Noughts from a place on: the lower part is all. -/
theorem val_take_zeros (b : Int) (l : List Int) (n : Nat) (h : ∀ j, n ≤ j → l.getD j 0 = 0) : val b (l.take n) = val b l := by
  have key : ∀ d, val b (l.take (n + d)) = val b (l.take n) := by
    intro d
    induction d with
    | zero => rfl
    | succ d ih => rw [← Nat.add_assoc, val_take_succ', h (n + d) (by omega), ih]; simp
  have := key l.length
  rw [List.take_of_length_le (show l.length ≤ n + l.length by omega)] at this
  exact this.symm
theorem norm_take {l : List Int} {n : Nat} (hn : n < l.length) (h : l.getD n 0 ≠ 0) : Norm (l.take (n + 1)) := by
  rw [take_snoc_getD l n hn]
  exact (norm_snoc _ _).2 h
/-- What trim leaves. -/
theorem take_digs {b : Nat} (hb : 2 ≤ b) {l : List Int} (hl : Dig (b : Int) l) {n : Nat} (hn : n < l.length) (hz : ∀ j, n + 1 ≤ j → l.getD j 0 = 0) (h : l.getD n 0 ≠ 0) {x : Nat} (hx : val (b : Int) l = (x : Int)) : l.take (n + 1) = digs b x :=
  eq_digs hb (hl.take _) (norm_take hn h) (by rw [val_take_zeros _ _ _ hz, hx])
theorem val_all_zeros (b : Int) (l : List Int) (hz : ∀ j, l.getD j 0 = 0) : val b l = 0 := by
  have := val_take_zeros b l 0 (fun j _ => hz j)
  rw [← this]; rfl

section
variable {α : Type} {g h : Nat → Option α} {r : α}
theorem Ev_pos {c : Prop} [Decidable c] (hc : c) (k : Ev g r) : Ev (fun n => if c then g n else h n) r := by
  obtain ⟨K, k⟩ := k
  exact ⟨K, fun n hn => (if_pos hc).trans (k n hn)⟩
theorem Ev_neg {c : Prop} [Decidable c] (hc : ¬ c) (k : Ev h r) : Ev (fun n => if c then g n else h n) r := by
  obtain ⟨K, k⟩ := k
  exact ⟨K, fun n hn => (if_neg hc).trans (k n hn)⟩
theorem Ev_some {c : Option α} (hc : c = some r) : Ev (fun _ => c) r := ⟨0, fun _ _ => hc⟩
theorem Ev_bind1 {β : Type} {c : Option β} {a : β} {f : Nat → β → Option α} (hc : c = some a) (k : Ev (fun n => f n a) r) : Ev (fun n => c.bind (f n)) r := by
  subst hc
  exact k
theorem Ev_all {f : Nat → Option α} (hf : ∀ k, 0 < k → f k = some r) : Ev f r := ⟨1, fun k hk => hf k (by omega)⟩
theorem Ev_id {β : Type} {f : Nat → Option β} {s : β} (k : Ev f s) : Ev (fun n => (f n).bind fun t => some t) s := Ev.bind k (Ev.now s)
theorem Ev_eq {f : Nat → Option α} {s : α} (k : Ev f s) (e : s = r) : Ev f r := e ▸ k
end

theorem limb_Mul_is {a b c d : Int} (ha : 0 ≤ a ∧ a < 18446744073709551616) (hb : 0 ≤ b ∧ b < 18446744073709551616) (hc : 0 ≤ c ∧ c < 18446744073709551616) (hd : 0 ≤ d ∧ d < 18446744073709551616) :
    limb_Mul.f a b c d = some ((a % 4294967296 * (b % 4294967296) + c % 4294967296 + d % 4294967296) % 4294967296, (a % 4294967296 * (b % 4294967296) + c % 4294967296 + d % 4294967296) / 4294967296) := by
  unfold limb_Mul.f
  rw [and32 ha.1 ha.2, and32 hb.1 hb.2, and32 hc.1 hc.2, and32 hd.1 hd.2]
  have hp := prod32 (x := a % 4294967296) (y := b % 4294967296) (by omega) (by omega) (by omega) (by omega)
  rw [w64i (n := a % 4294967296 * (b % 4294967296)) (by omega) (by omega), w64i (n := a % 4294967296 * (b % 4294967296) + c % 4294967296) (by omega) (by omega), w64i (n := a % 4294967296 * (b % 4294967296) + c % 4294967296 + d % 4294967296) (by omega) (by omega), and32 (by omega) (by omega)]

theorem limb_Add_is {a b c : Int} (ha : 0 ≤ a ∧ a < 18446744073709551616) (hb : 0 ≤ b ∧ b < 18446744073709551616) (hc : 0 ≤ c ∧ c < 18446744073709551616) :
    limb_Add.f a b c = some ((a % 4294967296 + b % 4294967296 + c % 4294967296) % 4294967296, (a % 4294967296 + b % 4294967296 + c % 4294967296) / 4294967296) := by
  unfold limb_Add.f
  rw [and32 ha.1 ha.2, and32 hb.1 hb.2, and32 hc.1 hc.2, w64i (n := a % 4294967296 + b % 4294967296) (by omega) (by omega), w64i (n := a % 4294967296 + b % 4294967296 + c % 4294967296) (by omega) (by omega), and32 (by omega) (by omega)]
theorem limb_Sub_is {a b c : Int} (ha : 0 ≤ a ∧ a < 18446744073709551616) (hb : 0 ≤ b ∧ b < 18446744073709551616) (hc : 0 ≤ c ∧ c < 18446744073709551616) :
    limb_Sub.f a b c = if a % 4294967296 < b % 4294967296 + c % 4294967296 then
        some (a % 4294967296 + (b % 4294967296 + c % 4294967296 - a % 4294967296 + 4294967295) / 4294967296 * 4294967296 - (b % 4294967296 + c % 4294967296), (b % 4294967296 + c % 4294967296 - a % 4294967296 + 4294967295) / 4294967296)
      else some (a % 4294967296 - (b % 4294967296 + c % 4294967296), 0) := by
  unfold limb_Sub.f
  rw [and32 ha.1 ha.2, and32 hb.1 hb.2, and32 hc.1 hc.2, w64i (n := b % 4294967296 + c % 4294967296) (by omega) (by omega)]
  by_cases h : a % 4294967296 < b % 4294967296 + c % 4294967296
  · rw [if_pos h, if_pos h, w64i (n := b % 4294967296 + c % 4294967296 - a % 4294967296) (by omega) (by omega), w64i (n := b % 4294967296 + c % 4294967296 - a % 4294967296 + 4294967295) (by omega) (by omega),
      w64i (n := (b % 4294967296 + c % 4294967296 - a % 4294967296 + 4294967295) / 4294967296 * 4294967296) (by omega) (by omega), w64i (n := a % 4294967296 + _) (by omega) (by omega), w64i (by omega) (by omega)]
  · rw [if_neg h, if_neg h, Int.zero_mul, Int.add_zero, w64i (n := a % 4294967296) (by omega) (by omega), w64i (by omega) (by omega)]

/-! ### nat: trim, Make, at, Add, Cmp, Sub -/
abbrev S40 : Nat := 1099511627776
theorem nat_trim_loop {l : List Int} (hl : Dig 4294967296 l) (hs : l.length ≤ 1099511627776) {x : Nat} (hx : val 4294967296 l = (x : Int)) : ∀ n : Nat, n ≤ l.length → (∀ j, n ≤ j → l.getD j 0 = 0) → Ev (fun k => nat_trim.l0 k l (n : Int)) (lim x) := by
  intro n
  induction n with
  | zero =>
    intro hn hz
    refine Ev.step (fun k => rfl) ?_
    have hx0 : x = 0 := by
      have := val_all_zeros 4294967296 l (fun j => hz j (by omega))
      omega
    refine Ev_neg (by omega) (Ev_pos (by omega) (Ev_pos (by omega) ?_))
    rw [hx0, show lim 0 = [] from lim_nil.2 rfl]
    exact Ev.now _
  | succ n ih =>
    intro hn hz
    refine Ev.step (fun k => rfl) ?_
    have hw : wrap64 (((n + 1 : Nat) : Int) - 1) = (n : Int) := by rw [s64i (by omega) (by omega)]; omega
    refine Ev_pos (by omega) (Ev_pos (by rw [hw]; omega) (Ev_pos (by rw [hw]; omega) ?_))
    rw [hw, rd_nat]
    by_cases h : l.getD n 0 = 0
    · refine Ev_pos h (ih (by omega) (fun j hj => ?_))
      rcases Nat.lt_or_ge n j with h1 | h1
      · exact hz j h1
      · rw [show j = n by omega]; exact h
    · refine Ev_neg h (Ev_pos (by omega) (Ev_pos (by omega) ?_))
      rw [Int.toNat_natCast, take_digs (b := 4294967296) (by omega) hl (by omega) hz h hx]
      exact Ev.now _
theorem nat_trim_is {l : List Int} (hl : Dig 4294967296 l) (hs : l.length ≤ 1099511627776) {x : Nat} (hx : val 4294967296 l = (x : Int)) : Ev (fun k => nat_trim.f k l) (lim x) :=
  nat_trim_loop hl hs hx l.length (Nat.le_refl _) (fun j hj => getD_ge hj)

theorem nat_Make_loop {l : List Int} (hl : Dig 4294967296 l) (hs : l.length ≤ 1099511627776) {x : Nat} (hx : val 4294967296 l = (x : Int)) (d : Nat) : ∀ i : Nat, i + d = l.length → Ev (fun k => nat_Make.l0 k (l.take i) l (l.length : Int) (i : Int)) (lim x, 0) := by
  induction d with
  | zero =>
    intro i hi
    refine Ev.step (fun k => rfl) ?_
    refine Ev_neg (by omega) (Ev.bind (a := lim x) ?_ (Ev.now _))
    rw [List.take_of_length_le (by omega)]
    exact nat_trim_is hl hs hx
  | succ d ih =>
    intro i hi
    refine Ev.step (fun k => rfl) ?_
    have hg := Dig.getD (by omega) hl i
    refine Ev_pos (by omega) (Ev_pos (by omega) (Ev_pos (by omega) ?_))
    rw [rd_nat]
    refine Ev_neg (by omega) (Ev_pos (by rw [List.length_take]; omega) ?_)
    rw [s64i (by omega) (by omega), ← take_snoc_getD l i (by omega)]
    exact ih (i + 1) (by omega)
theorem nat_Make_is {l : List Int} (hl : Dig 4294967296 l) (hs : l.length ≤ 1099511627776) {x : Nat} (hx : val 4294967296 l = (x : Int)) : Ev (fun k => nat_Make.f k l) (lim x, 0) := by
  unfold nat_Make.f
  exact Ev_pos (by omega) (Ev_pos (by omega) (nat_Make_loop hl hs hx l.length 0 (by omega)))
theorem nat_Make_lim {x : Nat} (hs : (lim x).length ≤ 1099511627776) : Ev (fun k => nat_Make.f k (lim x)) (lim x, 0) := nat_Make_is (lim_dig x) hs (lim_val x)

theorem mul_made_is {l : List Int} (hl : Dig 4294967296 l) (hs : l.length ≤ 1099511627776) {x : Nat} (hx : val 4294967296 l = (x : Int)) : Ev (fun k => mul_made.f k l) (lim x) := by
  unfold mul_made.f
  exact Ev.bind (nat_Make_is hl hs hx) (Ev.now _)

theorem nat_at_is (l : List Int) (i : Nat) : nat_at.f l (i : Int) = some (l.getD i 0) := by
  unfold nat_at.f
  by_cases h : (i : Int) ≥ (l.length : Int)
  · rw [if_pos h, getD_ge (by omega)]
  · rw [if_neg h, if_pos (by omega), if_pos (by omega), rd_nat]
theorem nat_Add_loop {a b : List Int} (ha : Dig 4294967296 a) (hb : Dig 4294967296 b) {n x : Nat} (hn : n ≤ 1000000000000) (hna : a.length ≤ n) (hnb : b.length ≤ n) (hx : val 4294967296 a + val 4294967296 b = (x : Int)) (d : Nat) : ∀ (i : Nat) (s : List Int) (c : Int),
    i + d = n → s.length = n + 1 → Dig 4294967296 s → 0 ≤ c → c ≤ 1 → (∀ j, i ≤ j → s.getD j 0 = 0) → val 4294967296 s + c * 4294967296 ^ i = val 4294967296 (a.take i) + val 4294967296 (b.take i) →
    Ev (fun k => nat_Add.l0 k a b (n : Int) s c (n : Int) (i : Int)) (lim x) := by
  induction d with
  | zero =>
    intro i s c hi hl hs h0 h1 hz hv
    refine Ev.step (fun k => rfl) ?_
    obtain rfl : i = n := by omega
    refine Ev_neg (by omega) (Ev_pos (by omega) (Ev_pos (by omega) (Ev.bind (a := lim x) ?_ (Ev.now _))))
    rw [Int.toNat_natCast]
    refine nat_trim_is (hs.set (by omega) _) (by rw [List.length_set]; omega) ?_
    rw [val_set _ _ _ _ (by omega), hz i (Nat.le_refl _), Int.sub_zero, ← hx]
    rw [List.take_of_length_le hna, List.take_of_length_le hnb, Int.mul_comm c] at hv
    exact hv
  | succ d ih =>
    intro i s c hi hl hs h0 h1 hz hv
    refine Ev.step (fun k => rfl) ?_
    have ga := Dig.getD (by omega) ha i
    have gb := Dig.getD (by omega) hb i
    refine Ev_pos (by omega) (Ev_bind1 (nat_at_is a i) (Ev_bind1 (nat_at_is b i) (Ev_bind1 (limb_Add_is (by omega) (by omega) (by omega)) (Ev_pos (by omega) (Ev_pos (by omega) ?_)))))
    rw [s64i (by omega) (by omega), Int.toNat_natCast]
    refine ih (i + 1) _ _ (by omega) (by rw [List.length_set]; exact hl) (hs.set (by omega) _) (by omega) (by omega) (fun j hj => ?_) ?_
    · rw [getD_set_ne (by omega)]; exact hz j (by omega)
    · rw [val_set _ _ _ _ (by omega), hz i (Nat.le_refl _), val_take_succ', val_take_succ', Int.sub_zero, Int.pow_succ]
      have e : (a.getD i 0 % 4294967296 + b.getD i 0 % 4294967296 + c % 4294967296) % 4294967296 + 4294967296 * ((a.getD i 0 % 4294967296 + b.getD i 0 % 4294967296 + c % 4294967296) / 4294967296) = a.getD i 0 + b.getD i 0 + c := by omega
      generalize (a.getD i 0 % 4294967296 + b.getD i 0 % 4294967296 + c % 4294967296) % 4294967296 = p at e ⊢
      generalize (a.getD i 0 % 4294967296 + b.getD i 0 % 4294967296 + c % 4294967296) / 4294967296 = q at e ⊢
      generalize (4294967296 : Int) ^ i = P at hv ⊢
      grind
theorem mx_nat (a b : Nat) : mx (a : Int) (b : Int) = ((max a b : Nat) : Int) := by unfold mx; split <;> omega
theorem mn_nat (a b : Nat) : mn (a : Int) (b : Int) = ((min a b : Nat) : Int) := by unfold mn; split <;> omega
theorem nat_Add_is {x y : Nat} (hx : (lim x).length ≤ 1000000000000) (hy : (lim y).length ≤ 1000000000000) : Ev (fun k => nat_Add.f k (lim x) (lim y)) (lim (x + y)) := by
  unfold nat_Add.f
  rw [mx_nat, s64i (n := ((max (lim x).length (lim y).length : Nat) : Int) + 1) (by omega) (by omega)]
  refine Ev_pos (by omega) (Ev_pos (by omega) ?_)
  refine nat_Add_loop (lim_dig x) (lim_dig y) (n := max (lim x).length (lim y).length) (by omega) (by omega) (by omega) (by rw [lim_val, lim_val]; omega) (max (lim x).length (lim y).length) 0 _ 0 (by omega) ?_ (Dig.zeros (by omega) _) (by omega) (by omega) (fun j _ => getD_zeros _ j) ?_
  · rw [List.length_replicate]; omega
  · rw [val_zeros]; rfl

theorem val_lt_of_top {b : Int} (hb : 0 < b) {l m : List Int} (hl : Dig b l) (hm : Dig b m) (h : l.length = m.length) (i : Nat) (hi : i < l.length) (he : val b (l.drop (i + 1)) = val b (m.drop (i + 1))) (hlt : l.getD i 0 < m.getD i 0) : val b l < val b m := by
  rw [val_take_drop b l i (by omega), val_take_drop b m i (by omega), val_drop b l i hi, val_drop b m i (by omega), he]
  have h1 := val_lt hb (hl.take i)
  rw [List.length_take, Nat.min_eq_left (by omega)] at h1
  have h2 := val_nonneg hb (hm.take i)
  have h3 : b ^ i * (l.getD i 0 + 1) ≤ b ^ i * m.getD i 0 := Int.mul_le_mul_of_nonneg_left (by omega) (Int.le_of_lt (powb_pos hb i))
  rw [Int.mul_add, Int.mul_one] at h3
  rw [Int.mul_add, Int.mul_add]
  omega
theorem nat_Cmp_loop {a b : List Int} (ha : Dig 4294967296 a) (hb : Dig 4294967296 b) (hl : a.length = b.length) (hs : a.length ≤ 1000000000000) : ∀ i : Nat, i ≤ a.length → val 4294967296 (a.drop i) = val 4294967296 (b.drop i) →
    Ev (fun k => nat_Cmp.l0 k a b ((i : Int) - 1)) (if val 4294967296 a < val 4294967296 b then -1 else if val 4294967296 b < val 4294967296 a then 1 else 0) := by
  intro i
  induction i with
  | zero =>
    intro hi he
    refine Ev.step (fun k => rfl) ?_
    refine Ev_neg (by omega) ?_
    have he : val 4294967296 a = val 4294967296 b := he
    rw [if_neg (by omega), if_neg (by omega)]
    exact Ev.now _
  | succ i ih =>
    intro hi he
    have hw : ((i + 1 : Nat) : Int) - 1 = (i : Int) := by omega
    rw [hw]
    refine Ev.step (fun k => rfl) ?_
    refine Ev_pos (by omega) (Ev_pos (by omega) (Ev_pos (by omega) (Ev_pos (by omega) ?_)))
    rw [rd_nat, rd_nat]
    by_cases h1 : a.getD i 0 < b.getD i 0
    · refine Ev_pos h1 ?_
      rw [if_pos (val_lt_of_top (by omega) ha hb hl i (by omega) he h1)]
      exact Ev.now _
    · refine Ev_neg h1 ?_
      by_cases h2 : a.getD i 0 > b.getD i 0
      · refine Ev_pos h2 ?_
        have := val_lt_of_top (by omega) hb ha hl.symm i (by omega) he.symm h2
        rw [if_neg (by omega), if_pos this]
        exact Ev.now _
      · refine Ev_neg h2 ?_
        rw [s64i (by omega) (by omega)]
        refine ih (by omega) ?_
        rw [val_drop _ a i (by omega), val_drop _ b i (by omega), he]
        omega
theorem nat_Cmp_is {x y : Nat} (hx : (lim x).length ≤ 1000000000000) (hy : (lim y).length ≤ 1000000000000) : Ev (fun k => nat_Cmp.f k (lim x) (lim y)) (if x < y then -1 else if y < x then 1 else 0) := by
  unfold nat_Cmp.f
  have mono : ∀ {x y : Nat}, (lim x).length < (lim y).length → x < y := by
    intro x y h
    rcases Nat.lt_or_ge x y with h1 | h1
    · exact h1
    · have := digs_len_mono (b := 4294967296) (by omega) h1
      have h2 : (lim y).length ≤ (lim x).length := this
      omega
  by_cases h1 : ((lim x).length : Int) < ((lim y).length : Int)
  · refine Ev_pos h1 ?_
    rw [if_pos (mono (by omega))]
    exact Ev.now _
  · refine Ev_neg h1 ?_
    by_cases h2 : ((lim x).length : Int) > ((lim y).length : Int)
    · refine Ev_pos h2 ?_
      have := mono (x := y) (y := x) (by omega)
      rw [if_neg (by omega), if_pos this]
      exact Ev.now _
    · refine Ev_neg h2 ?_
      rw [s64i (by omega) (by omega)]
      have := nat_Cmp_loop (lim_dig x) (lim_dig y) (by omega) hx (lim x).length (Nat.le_refl _) (by rw [List.drop_eq_nil_of_le (Nat.le_refl _), List.drop_eq_nil_of_le (by omega)])
      rw [lim_val, lim_val] at this
      refine Ev_eq this ?_
      simp only [Int.ofNat_lt]
theorem nat_Sub_loop {a b : List Int} (ha : Dig 4294967296 a) (hb : Dig 4294967296 b) {n x : Nat} (hn : n ≤ 1000000000000) (hna : a.length = n) (hnb : b.length ≤ n) (hx : val 4294967296 a - val 4294967296 b = (x : Int)) (d : Nat) : ∀ (i : Nat) (s : List Int) (c : Int),
    i + d = n → s.length = n → Dig 4294967296 s → 0 ≤ c → c ≤ 1 → (∀ j, i ≤ j → s.getD j 0 = 0) → val 4294967296 s + val 4294967296 (b.take i) = val 4294967296 (a.take i) + c * 4294967296 ^ i →
    Ev (fun k => nat_Sub.l0 k a b s c (n : Int) (i : Int)) (lim x, 0) := by
  induction d with
  | zero =>
    intro i s c hi hl hs h0 h1 hz hv
    refine Ev.step (fun k => rfl) ?_
    obtain rfl : i = n := by omega
    rw [List.take_of_length_le (l := b) hnb, List.take_of_length_le (l := a) (by omega)] at hv
    have hlt := val_lt (by omega) hs
    rw [hl] at hlt
    have hp := powb_pos (b := 4294967296) (by omega) i
    have hc : c = 0 := by
      rcases (show c = 0 ∨ c = 1 by omega) with h | h
      · exact h
      · subst h; omega
    refine Ev_neg (by omega) (Ev.bind (a := lim x) (nat_trim_is hs (by omega) ?_) (Ev.now _))
    subst hc
    omega
  | succ d ih =>
    intro i s c hi hl hs h0 h1 hz hv
    refine Ev.step (fun k => rfl) ?_
    have ga := Dig.getD (by omega) ha i
    have gb := Dig.getD (by omega) hb i
    refine Ev_pos (by omega) (Ev_pos (by omega) (Ev_pos (by omega) (Ev_bind1 (nat_at_is b i) ?_)))
    rw [rd_nat]
    have hsub : limb_Sub.f (a.getD i 0) (b.getD i 0) c = some (if a.getD i 0 < b.getD i 0 + c then (a.getD i 0 + 4294967296 - b.getD i 0 - c, 1) else (a.getD i 0 - b.getD i 0 - c, 0)) := by
      rw [limb_Sub_is (by omega) (by omega) (by omega)]
      by_cases h : a.getD i 0 < b.getD i 0 + c
      · rw [if_pos (by omega), if_pos h]
        congr 2 <;> omega
      · rw [if_neg (by omega), if_neg h]
        congr 2 <;> omega
    refine Ev_bind1 hsub (Ev_pos (by omega) ?_)
    rw [s64i (by omega) (by omega), Int.toNat_natCast]
    by_cases h : a.getD i 0 < b.getD i 0 + c
    · rw [if_pos h]
      refine ih (i + 1) _ _ (by omega) (by rw [List.length_set]; exact hl) (hs.set (by dsimp only; omega) _) (by dsimp only; omega) (by dsimp only; omega) (fun j hj => ?_) ?_
      · rw [getD_set_ne (by omega)]; exact hz j (by omega)
      · rw [val_set _ _ _ _ (by omega), hz i (Nat.le_refl _), val_take_succ', val_take_succ', Int.sub_zero, Int.pow_succ]
        generalize (4294967296 : Int) ^ i = P at hv ⊢
        generalize a.getD i 0 = p at *
        generalize b.getD i 0 = q at *
        grind
    · rw [if_neg h]
      refine ih (i + 1) _ _ (by omega) (by rw [List.length_set]; exact hl) (hs.set (by dsimp only; omega) _) (by dsimp only; omega) (by dsimp only; omega) (fun j hj => ?_) ?_
      · rw [getD_set_ne (by omega)]; exact hz j (by omega)
      · rw [val_set _ _ _ _ (by omega), hz i (Nat.le_refl _), val_take_succ', val_take_succ', Int.sub_zero, Int.pow_succ]
        generalize (4294967296 : Int) ^ i = P at hv ⊢
        generalize a.getD i 0 = p at *
        generalize b.getD i 0 = q at *
        grind
theorem nat_Sub_is {x y : Nat} (hx : (lim x).length ≤ 1000000000000) (hy : (lim y).length ≤ 1000000000000) : Ev (fun k => nat_Sub.f k (lim x) (lim y)) (if x < y then ([], 6) else (lim (x - y), 0)) := by
  unfold nat_Sub.f
  refine Ev.bind (nat_Cmp_is hx hy) ?_
  by_cases h : x < y
  · rw [if_pos h, if_pos h]
    exact Ev_pos (by omega) (Ev.now _)
  · rw [if_neg h, if_neg h]
    refine Ev_neg (by split <;> omega) (Ev_pos (by omega) (Ev_pos (by omega) (Ev_bind1 (a := List.replicate ((lim x).length : Int).toNat 0) rfl ?_)))
    rw [Int.toNat_natCast, List.length_replicate]
    refine nat_Sub_loop (lim_dig x) (lim_dig y) (n := (lim x).length) hx rfl (digs_len_mono (by omega) (by omega)) (by rw [lim_val, lim_val]; omega) (lim x).length 0 _ 0 (by omega) (by rw [List.length_replicate]) (Dig.zeros (by omega) _) (by omega) (by omega) (fun j _ => getD_zeros _ j) ?_
    rw [val_zeros]; rfl

/-! ### mul -/
theorem alg_small (vp P p q A M c v c0 : Int) (e : p + 4294967296 * q = A * M + c) (hv : vp + P * c = v * M + c0) : vp + P * p + P * 4294967296 * q = (v + P * A) * M + c0 := by grind
theorem mul_Small_loop {a : List Int} (ha : Dig 4294967296 a) {m : Int} (hm : 0 ≤ m ∧ m < 18446744073709551616) {n x : Nat} (hn : a.length = n) (hsz : n ≤ 100000000000) {c0 : Int} (hx : val 4294967296 a * (m % 4294967296) + c0 = (x : Int)) (d : Nat) : ∀ (i : Nat) (s : List Int) (c : Int),
    i + d = n → s.length = n + 1 → Dig 4294967296 s → 0 ≤ c → c < 4294967296 → (∀ j, i ≤ j → s.getD j 0 = 0) → val 4294967296 s + 4294967296 ^ i * c = val 4294967296 (a.take i) * (m % 4294967296) + c0 →
    Ev (fun k => mul_Small.l0 k a m s c a (n : Int) (i : Int)) (lim x) := by
  induction d with
  | zero =>
    intro i s c hi hl hs h0 h1 hz hv
    refine Ev.step (fun k => rfl) ?_
    obtain rfl : i = n := by omega
    subst hn
    refine Ev_neg (by omega) (Ev_pos (by omega) (Ev_pos (by omega) (Ev.bind (a := lim x) ?_ (Ev.now _))))
    rw [Int.toNat_natCast]
    refine mul_made_is (hs.set (by omega) _) (by rw [List.length_set]; omega) ?_
    rw [val_set _ _ _ _ (by omega), hz a.length (Nat.le_refl _), Int.sub_zero, ← hx]
    rw [List.take_of_length_le (Nat.le_refl _)] at hv
    exact hv
  | succ d ih =>
    intro i s c hi hl hs h0 h1 hz hv
    refine Ev.step (fun k => rfl) ?_
    have ga := Dig.getD (by omega) ha i
    have hp := prod32 (x := a.getD i 0) (y := m % 4294967296) (by omega) (by omega) (by omega) (by omega)
    refine Ev_pos (by omega) (Ev_pos (by omega) (Ev_pos (by omega) ?_))
    rw [rd_nat]
    refine Ev_bind1 (limb_Mul_is (by omega) hm (by omega) (by omega)) (Ev_pos (by omega) ?_)
    rw [s64i (by omega) (by omega), Int.toNat_natCast]
    have e0 : a.getD i 0 % 4294967296 = a.getD i 0 := by omega
    have e1 : c % 4294967296 = c := by omega
    rw [e0, e1, show (0 : Int) % 4294967296 = 0 from rfl, Int.add_zero]
    refine ih (i + 1) _ _ (by omega) (by rw [List.length_set]; exact hl) (hs.set (by dsimp only; omega) _) (by dsimp only; omega) (by dsimp only; omega) (fun j hj => ?_) ?_
    · rw [getD_set_ne (by omega)]; exact hz j (by omega)
    · dsimp only
      rw [val_set _ _ _ _ (by omega), hz i (Nat.le_refl _), val_take_succ', Int.sub_zero, Int.pow_succ]
      have e : (a.getD i 0 * (m % 4294967296) + c) % 4294967296 + 4294967296 * ((a.getD i 0 * (m % 4294967296) + c) / 4294967296) = a.getD i 0 * (m % 4294967296) + c := by omega
      exact alg_small _ _ _ _ _ _ _ _ _ e hv
theorem mul_Small_is {x : Nat} (hx : (lim x).length ≤ 100000000000) {m c : Int} (hm : 0 ≤ m ∧ m < 18446744073709551616) (hc : 0 ≤ c ∧ c < 18446744073709551616) : Ev (fun k => mul_Small.f k (lim x) m c) (lim (x * (m % 4294967296).toNat + (c % 4294967296).toNat)) := by
  unfold mul_Small.f
  rw [s64i (n := ((lim x).length : Int) + 1) (by omega) (by omega)]
  refine Ev_pos (by omega) (Ev_pos (by omega) (Ev_bind1 (limb_Add_is hc (by omega) (by omega)) ?_))
  refine mul_Small_loop (lim_dig x) hm (n := (lim x).length) rfl hx (c0 := c % 4294967296) ?_ (lim x).length 0 _ _ (by omega) ?_ (Dig.zeros (by omega) _) (by dsimp only; omega) (by dsimp only; omega) (fun j _ => getD_zeros _ j) ?_
  · rw [lim_val, Int.natCast_add, Int.natCast_mul, Int.toNat_of_nonneg (by omega), Int.toNat_of_nonneg (by omega)]
  · rw [List.length_replicate]; omega
  · rw [val_zeros]
    show 0 + 4294967296 ^ 0 * ((c % 4294967296 + 0 % 4294967296 + 0 % 4294967296) % 4294967296) = val 4294967296 ([] : List Int) * (m % 4294967296) + c % 4294967296
    rw [val_nil, Int.pow_zero]; omega

theorem up64 {x : Int} (h : 0 ≤ x ∧ x < 4294967296) : 0 ≤ x ∧ x < 18446744073709551616 := ⟨h.1, by omega⟩
theorem divmod32 {T : Int} (h : 0 ≤ T ∧ T < 18446744073709551616) : (0 ≤ T % 4294967296 ∧ T % 4294967296 < 4294967296) ∧ (0 ≤ T / 4294967296 ∧ T / 4294967296 < 4294967296) ∧ T % 4294967296 + 4294967296 * (T / 4294967296) = T := by omega
theorem alg_long (vp P R u v z x y c v0 V T : Int) (e : u + 4294967296 * v = T) (hT : x * y + z + c = T) (hv : vp + P * R * c = v0 + P * (x * V)) : vp + P * R * (u - z) + P * R * 4294967296 * v = v0 + P * (x * (V + R * y)) := by grind
theorem mul_Long_inner {a b : List Int} (ha : Dig 4294967296 a) (hb : Dig 4294967296 b) (hs : a.length + b.length ≤ 100000000000) {r : List Int} {i : Nat} (hi : i < a.length) (p0 : List Int)
    (hend : ∀ q : List Int, q.length = a.length + b.length → Dig 4294967296 q → (∀ j, i + 1 + b.length ≤ j → q.getD j 0 = 0) → val 4294967296 q = val 4294967296 p0 + 4294967296 ^ i * (a.getD i 0 * val 4294967296 b) → Ev (fun k => mul_Long.l0 k b q a (a.length : Int) ((i + 1 : Nat) : Int)) r) (d : Nat) : ∀ (j : Nat) (p : List Int) (c : Int),
    j + d = b.length → p.length = a.length + b.length → Dig 4294967296 p → 0 ≤ c → c < 4294967296 → (∀ j, i + b.length ≤ j → p.getD j 0 = 0) → val 4294967296 p + 4294967296 ^ (i + j) * c = val 4294967296 p0 + 4294967296 ^ i * (a.getD i 0 * val 4294967296 (b.take j)) →
    Ev (fun k => mul_Long.l1 k b p (i : Int) (a.getD i 0) c a (a.length : Int) (i : Int) b (b.length : Int) (j : Int)) r := by
  induction d with
  | zero =>
    intro j p c hj hl hp h0 h4 hz hv
    refine Ev.step (fun k => rfl) ?_
    obtain rfl : j = b.length := by omega
    have h1 : i + b.length < 9223372036854775808 := by omega
    have h2 : i + b.length < p.length := by omega
    have h3 : i + 1 < 9223372036854775808 := by omega
    refine Ev_neg (by omega) (Ev_pos (w_add_nn h1) (Ev_pos (w_add_lt h1 h2) ?_))
    rw [w_add h1, Int.toNat_natCast, w_succ h3]
    refine hend _ (by rw [List.length_set]; exact hl) (hp.set ⟨h0, h4⟩ _) (fun j hj => ?_) ?_
    · rw [getD_set_ne (by omega)]; exact hz j (by omega)
    · rw [val_set _ _ _ _ (by omega), hz _ (Nat.le_refl _), Int.sub_zero]
      rw [List.take_of_length_le (Nat.le_refl _)] at hv
      exact hv
  | succ d ih =>
    intro j p c hj hl hp h0 h4 hz hv
    refine Ev.step (fun k => rfl) ?_
    have hij : i + j < p.length := by omega
    have hij2 : i + j < 9223372036854775808 := by omega
    have hj2 : j + 1 < 9223372036854775808 := by omega
    refine Ev_pos (by omega) (Ev_pos (by omega) (Ev_pos (by omega) (Ev_pos (w_add_nn hij2) (Ev_pos (w_add_lt hij2 hij) ?_))))
    have ga := Dig.getD (by omega) ha i
    have gb := Dig.getD (by omega) hb j
    have gp := Dig.getD (by omega) hp (i + j)
    have hpr := prod32 (x := a.getD i 0) (y := b.getD j 0) ga.1 ga.2 gb.1 gb.2
    rw [w_add hij2, rd_nat, rd_nat]
    refine Ev_bind1 (limb_Mul_is (up64 ga) (up64 gb) (up64 gp) (up64 ⟨h0, h4⟩)) ?_
    rw [w_succ hj2, Int.toNat_natCast]
    rw [Int.emod_eq_of_lt ga.1 ga.2, Int.emod_eq_of_lt gb.1 gb.2, Int.emod_eq_of_lt gp.1 gp.2, Int.emod_eq_of_lt h0 h4]
    obtain ⟨T, hT⟩ : ∃ T, a.getD i 0 * b.getD j 0 + p.getD (i + j) 0 + c = T := ⟨_, rfl⟩
    have hT0 : 0 ≤ T ∧ T < 18446744073709551616 := by omega
    rw [hT]
    clear hpr
    have dm := divmod32 hT0
    refine ih (j + 1) _ _ (by omega) (by rw [List.length_set]; exact hl) (hp.set dm.1 _) dm.2.1.1 dm.2.1.2 (fun j hj => ?_) ?_
    · rw [getD_set_ne (by omega)]; exact hz j (by omega)
    · dsimp only
      rw [val_set _ _ _ _ (by omega), val_take_succ', ← Nat.add_assoc, Int.pow_succ]
      have e := dm.2.2
      have hpw : (4294967296 : Int) ^ (i + j) = 4294967296 ^ i * 4294967296 ^ j := Int.pow_add ..
      rw [hpw] at hv ⊢
      exact alg_long _ _ _ _ _ _ _ _ _ _ _ _ e hT hv
theorem mul_Long_loop {a b : List Int} (ha : Dig 4294967296 a) (hb : Dig 4294967296 b) (hs : a.length + b.length ≤ 100000000000) {x : Nat} (hx : val 4294967296 a * val 4294967296 b = (x : Int)) (d : Nat) : ∀ (i : Nat) (p : List Int),
    i + d = a.length → p.length = a.length + b.length → Dig 4294967296 p → (∀ j, i + b.length ≤ j → p.getD j 0 = 0) → val 4294967296 p = val 4294967296 (a.take i) * val 4294967296 b →
    Ev (fun k => mul_Long.l0 k b p a (a.length : Int) (i : Int)) (lim x) := by
  induction d with
  | zero =>
    intro i p hi hl hp hz hv
    refine Ev.step (fun k => rfl) ?_
    refine Ev_neg (by omega) (Ev.bind (a := lim x) (mul_made_is hp (by omega) ?_) (Ev.now _))
    rw [hv, List.take_of_length_le (by omega), hx]
  | succ d ih =>
    intro i p hi hl hp hz hv
    refine Ev.step (fun k => rfl) ?_
    refine Ev_pos (by omega) (Ev_pos (by omega) (Ev_pos (by omega) ?_))
    rw [rd_nat]
    refine mul_Long_inner ha hb hs (i := i) (by omega) p ?_ b.length 0 p 0 (by omega) hl hp (by omega) (by omega) hz (by simp [val])
    intro q hq hqd hqz hqv
    refine ih (i + 1) q (by omega) hq hqd (fun j hj => hqz j (by omega)) ?_
    rw [hqv, hv, val_take_succ', Int.add_mul, Int.mul_assoc]
theorem mul_Long_is {x y : Nat} (hs : (lim x).length + (lim y).length ≤ 100000000000) : Ev (fun k => mul_Long.f k (lim x) (lim y)) (lim (x * y)) := by
  unfold mul_Long.f
  rw [s64i (n := ((lim x).length : Int) + ((lim y).length : Int)) (by omega) (by omega)]
  refine Ev_pos (by omega) (Ev_pos (by omega) ?_)
  refine mul_Long_loop (lim_dig x) (lim_dig y) hs (by rw [lim_val, lim_val, Int.natCast_mul]) (lim x).length 0 _ (by omega) ?_ (Dig.zeros (by omega) _) (fun j _ => getD_zeros _ j) ?_
  · rw [List.length_replicate]; omega
  · rw [val_zeros]; simp [val]

theorem pow32 (n : Nat) : ((4294967296 ^ n : Nat) : Int) = (4294967296 : Int) ^ n := by rw [Int.natCast_pow]; rfl
theorem lim_take (x n : Nat) : val 4294967296 ((lim x).take n) = ((x % 4294967296 ^ n : Nat) : Int) ∧ val 4294967296 ((lim x).drop n) = ((x / 4294967296 ^ n : Nat) : Int) := by
  by_cases hn : n ≤ (lim x).length
  · have h := val_take_drop 4294967296 (lim x) n hn
    rw [lim_val] at h
    have h0 := val_nonneg (b := 4294967296) (by omega) ((lim_dig x).take n)
    have h1 := val_lt (b := 4294967296) (by omega) ((lim_dig x).take n)
    rw [List.length_take, Nat.min_eq_left hn] at h1
    have hu := divmod_unique (n := (x : Int)) (d := 4294967296 ^ n) (q := val 4294967296 ((lim x).drop n)) (r := val 4294967296 ((lim x).take n)) (by rw [Int.mul_comm, h]; omega) h0 h1
    constructor
    · rw [← hu.2, Int.natCast_emod, pow32]
    · rw [← hu.1, Int.natCast_ediv, pow32]
  · have hlt : x < 4294967296 ^ n := lim_len.1 (by omega)
    rw [List.take_of_length_le (by omega), List.drop_eq_nil_of_le (by omega), lim_val, Nat.mod_eq_of_lt hlt, Nat.div_eq_of_lt hlt]
    exact ⟨rfl, rfl⟩
theorem mul_cut_is {x n : Nat} (hs : (lim x).length ≤ 100000000000) (hn : n ≤ 100000000000) : Ev (fun k => mul_cut.f k (lim x) (n : Int)) (lim (x % 4294967296 ^ n), lim (x / 4294967296 ^ n)) := by
  unfold mul_cut.f
  rw [mn_nat]
  refine Ev_pos (by omega) (Ev_pos (by omega) ?_)
  rw [Int.toNat_natCast]
  have h1 : (lim x).take (min n (lim x).length) = (lim x).take n := by
    rcases Nat.le_total n (lim x).length with h | h
    · rw [Nat.min_eq_left h]
    · rw [Nat.min_eq_right h, List.take_of_length_le (Nat.le_refl _), List.take_of_length_le h]
  have h2 : (lim x).drop (min n (lim x).length) = (lim x).drop n := by
    rcases Nat.le_total n (lim x).length with h | h
    · rw [Nat.min_eq_left h]
    · rw [Nat.min_eq_right h, List.drop_eq_nil_of_le (Nat.le_refl _), List.drop_eq_nil_of_le h]
  rw [h1, h2]
  refine Ev.bind (mul_made_is ((lim_dig x).take n) (by rw [List.length_take]; omega) (lim_take x n).1) ?_
  exact Ev.bind (mul_made_is ((lim_dig x).drop n) (by rw [List.length_drop]; omega) (lim_take x n).2) (Ev.now _)
theorem mul_up_is {x n : Nat} (hs : (lim x).length ≤ 1000000000) (hn : n ≤ 1000000000) : Ev (fun k => mul_up.f k (lim x) (n : Int)) (lim (x * 4294967296 ^ n)) := by
  unfold mul_up.f
  have h1 : n + (lim x).length < 9223372036854775808 := by omega
  rw [w_add h1, Int.toNat_natCast]
  refine Ev_pos (by omega) (Ev_pos (by omega) (Ev_bind1 (a := List.replicate (n + (lim x).length) 0) rfl ?_))
  rw [List.length_replicate, Int.toNat_natCast, List.take_replicate, List.drop_replicate, Nat.min_eq_left (by omega), Nat.add_sub_cancel_left]
  refine Ev_pos (by omega) (Ev_pos (by omega) (Ev_pos (by omega) (Ev.bind (a := lim (x * 4294967296 ^ n)) ?_ (Ev.now _))))
  have hc : cpy (List.replicate (lim x).length (0 : Int)) (lim x) = lim x := by
    unfold cpy
    rw [List.length_replicate, Nat.min_self, List.take_of_length_le (Nat.le_refl _), List.drop_eq_nil_of_le (by rw [List.length_replicate]; exact Nat.le_refl _), List.append_nil]
  rw [hc]
  refine mul_made_is ((Dig.zeros (by omega) _).append (lim_dig x)) (by rw [List.length_append, List.length_replicate]; omega) ?_
  rw [val_append, val_zeros, List.length_replicate, lim_val, Int.zero_add, Int.mul_comm, Int.natCast_mul, pow32]
theorem rd_L1_0 (a b c : List Int) : rd_L2 [a, b, c] 0 = a := rfl
theorem rd_L1_1 (a b c : List Int) : rd_L2 [a, b, c] 1 = b := rfl
theorem rd_L1_2 (a b c : List Int) : rd_L2 [a, b, c] 2 = c := rfl
theorem nat_Sum3 {x y z : Nat} (hx : (lim x).length ≤ 100000000000) (hxy : (lim (x + y)).length ≤ 100000000000) (hy : (lim y).length ≤ 100000000000) (hz : (lim z).length ≤ 100000000000) : Ev (fun k => nat_Sum.f k [lim x, lim y, lim z]) (lim (x + y + z)) := by
  unfold nat_Sum.f
  have h0 : ([] : List Int) = lim 0 := (lim_nil.2 rfl).symm
  rw [h0]
  refine Ev.step (fun k => rfl) ?_
  refine Ev_pos (show (0 : Int) < ((3 : Nat) : Int) by decide) (Ev_pos (by decide) (Ev_pos (show (0 : Int) < ((3 : Nat) : Int) by decide) (Ev.bind (a := lim x) ?_ ?_)))
  · rw [rd_L1_0]
    refine Ev_eq (nat_Add_is (by rw [lim_nil.2 rfl]; simp) (by omega)) ?_
    rw [Nat.zero_add]
  · rw [show wrap64 ((0 : Int) + 1) = 1 from s64i (by decide) (by decide)]
    refine Ev.step (fun k => rfl) ?_
    refine Ev_pos (show (1 : Int) < ((3 : Nat) : Int) by decide) (Ev_pos (by decide) (Ev_pos (show (1 : Int) < ((3 : Nat) : Int) by decide) (Ev.bind (a := lim (x + y)) ?_ ?_)))
    · rw [rd_L1_1]
      exact nat_Add_is (by omega) (by omega)
    · rw [show wrap64 ((1 : Int) + 1) = 2 from s64i (by decide) (by decide)]
      refine Ev.step (fun k => rfl) ?_
      refine Ev_pos (show (2 : Int) < ((3 : Nat) : Int) by decide) (Ev_pos (by decide) (Ev_pos (show (2 : Int) < ((3 : Nat) : Int) by decide) (Ev.bind (a := lim (x + y + z)) ?_ ?_)))
      · rw [rd_L1_2]
        exact nat_Add_is (by omega) (by omega)
      · rw [show wrap64 ((2 : Int) + 1) = 3 from s64i (by decide) (by decide)]
        refine Ev.step (fun k => rfl) ?_
        exact Ev_neg (show ¬ (3 : Int) < ((3 : Nat) : Int) by decide) (Ev.now _)
theorem alg_kara (xl xh yl yh P : Nat) : xl * yl + ((xl + xh) * (yl + yh) - xl * yl - xh * yh) * P + xh * yh * (P * P) = (xl + P * xh) * (yl + P * yh) := by
  have h : (xl + xh) * (yl + yh) = xl * yl + (xh * yh + (xl * yh + xh * yl)) := by grind
  rw [h, Nat.add_sub_cancel_left, Nat.add_sub_cancel_left]
  grind
theorem mul_Short_is (M : Nat) : ∀ {x y : Nat}, (lim x).length ≤ M → (lim y).length ≤ M → M ≤ 1000000 → Ev (fun k => mul_Short.f k (lim x) (lim y)) (lim (x * y)) := by
  induction M using Nat.strongRecOn with
  | _ M ih =>
    intro x y hx hy hM
    refine Ev.step (fun k => rfl) ?_
    simp only [mul_Short.f]
    rw [mn_nat, mx_nat]
    by_cases hsm : min (lim x).length (lim y).length < 4
    · exact Ev_pos (by omega) (Ev.bind (mul_Long_is (by omega)) (Ev.now _))
    · refine Ev_neg (by omega) ?_
      obtain ⟨L, hL⟩ : ∃ L, L = max (lim x).length (lim y).length := ⟨_, rfl⟩
      have hL4 : 4 ≤ L := by omega
      have hLM : L ≤ M := by omega
      obtain ⟨n, hn⟩ : ∃ n, n = (L + 1) / 2 := ⟨_, rfl⟩
      have hw : wrap64 (Int.tdiv (wrap64 (((max (lim x).length (lim y).length : Nat) : Int) + 1)) 2) = (n : Int) := by
        rw [w_succ (by omega), td (by omega), s64i (by omega) (by omega)]; omega
      have hw2 : wrap64 (2 * (n : Int)) = ((2 * n : Nat) : Int) := by rw [s64i (by omega) (by omega)]; omega
      rw [hw, hw2]
      clear hw hw2
      have hxl : x < 4294967296 ^ L := lim_len.1 (by omega)
      have hyl : y < 4294967296 ^ L := lim_len.1 (by omega)
      have hPpos : 0 < 4294967296 ^ n := Nat.pow_pos (by omega)
      have hLn : 4294967296 ^ L ≤ 4294967296 ^ (n + n) := Nat.pow_le_pow_right (by omega) (by omega)
      rw [Nat.pow_add] at hLn
      have hx1 : x / 4294967296 ^ n < 4294967296 ^ n := Nat.div_lt_of_lt_mul (by omega)
      have hy1 : y / 4294967296 ^ n < 4294967296 ^ n := Nat.div_lt_of_lt_mul (by omega)
      have hx0 : x % 4294967296 ^ n < 4294967296 ^ n := Nat.mod_lt _ hPpos
      have hy0 : y % 4294967296 ^ n < 4294967296 ^ n := Nat.mod_lt _ hPpos
      have hxe := Nat.mod_add_div x (4294967296 ^ n)
      have hye := Nat.mod_add_div y (4294967296 ^ n)
      obtain ⟨xl, hxl'⟩ : ∃ a, a = x % 4294967296 ^ n := ⟨_, rfl⟩
      obtain ⟨xh, hxh'⟩ : ∃ a, a = x / 4294967296 ^ n := ⟨_, rfl⟩
      obtain ⟨yl, hyl'⟩ : ∃ a, a = y % 4294967296 ^ n := ⟨_, rfl⟩
      obtain ⟨yh, hyh'⟩ : ∃ a, a = y / 4294967296 ^ n := ⟨_, rfl⟩
      refine Ev.bind (mul_cut_is (x := x) (n := n) (by omega) (by omega)) ?_
      refine Ev.bind (mul_cut_is (x := y) (n := n) (by omega) (by omega)) ?_
      dsimp only
      rw [← hxl', ← hxh', ← hyl', ← hyh']
      rw [← hxl'] at hx0 hxe
      rw [← hxh'] at hx1 hxe
      rw [← hyl'] at hy0 hye
      rw [← hyh'] at hy1 hye
      have l0 : (lim xl).length ≤ n := lim_len.2 hx0
      have l1 : (lim xh).length ≤ n := lim_len.2 hx1
      have l2 : (lim yl).length ≤ n := lim_len.2 hy0
      have l3 : (lim yh).length ≤ n := lim_len.2 hy1
      have hP1 : 4294967296 ^ (n + 1) = 4294967296 ^ n * 4294967296 := Nat.pow_succ ..
      have l4 : (lim (xl + xh)).length ≤ n + 1 := lim_len.2 (by omega)
      have l5 : (lim (yl + yh)).length ≤ n + 1 := lim_len.2 (by omega)
      have hn1 : n + 1 < M := by omega
      have hprod : ∀ {a b m p : Nat}, (lim a).length ≤ m → (lim b).length ≤ p → (lim (a * b)).length ≤ m + p := by
        intro a b m p h1 h2
        have h1 := lim_len.1 h1
        have h2 := lim_len.1 h2
        refine lim_len.2 ?_
        rw [Nat.pow_add]
        exact Nat.mul_lt_mul'' h1 h2
      have m1 := hprod l0 l2
      have m2 := hprod l1 l3
      have m3 := hprod l4 l5
      have hsum : (xl + xh) * (yl + yh) = xl * yl + (xh * yh + (xl * yh + xh * yl)) := by grind
      have s1 : ¬ (xl + xh) * (yl + yh) < xl * yl := by omega
      have s2 : ¬ (xl + xh) * (yl + yh) - xl * yl < xh * yh := by omega
      have m4 : (lim ((xl + xh) * (yl + yh) - xl * yl)).length ≤ n + 1 + (n + 1) := Nat.le_trans (digs_len_mono (by omega) (by omega)) m3
      have m5 : (lim ((xl + xh) * (yl + yh) - xl * yl - xh * yh)).length ≤ n + 1 + (n + 1) := Nat.le_trans (digs_len_mono (by omega) (by omega)) m3
      clear hsum
      refine Ev.bind (ih n (by omega) l0 l2 (by omega)) ?_
      refine Ev.bind (ih n (by omega) l1 l3 (by omega)) ?_
      refine Ev.bind (nat_Add_is (by omega) (by omega)) ?_
      refine Ev.bind (nat_Add_is (by omega) (by omega)) ?_
      refine Ev.bind (ih (n + 1) hn1 l4 l5 (by omega)) ?_
      have sub1 := nat_Sub_is (x := (xl + xh) * (yl + yh)) (y := xl * yl) (by omega) (by omega)
      rw [if_neg s1] at sub1
      refine Ev.bind sub1 ?_
      have sub2 := nat_Sub_is (x := (xl + xh) * (yl + yh) - xl * yl) (y := xh * yh) (by omega) (by omega)
      rw [if_neg s2] at sub2
      refine Ev.bind sub2 ?_
      refine Ev.bind (mul_up_is (n := n) (by omega) (by omega)) ?_
      refine Ev.bind (mul_up_is (n := 2 * n) (by omega) (by omega)) ?_
      have p1 : (lim (((xl + xh) * (yl + yh) - xl * yl - xh * yh) * 4294967296 ^ n)).length ≤ n + 1 + (n + 1) + (n + 1) := hprod m5 (lim_len.2 (by omega))
      have p2 : (lim (xh * yh * 4294967296 ^ (2 * n))).length ≤ n + n + (2 * n + 1) := hprod m2 (lim_len.2 (Nat.pow_lt_pow_right (by omega) (by omega)))
      have p3 : (lim (xl * yl + ((xl + xh) * (yl + yh) - xl * yl - xh * yh) * 4294967296 ^ n)).length ≤ n + n + (n + 1 + (n + 1) + (n + 1)) + 1 := by
        have q1 := lim_len.1 m1
        have q2 := lim_len.1 p1
        refine lim_len.2 ?_
        have e1 : 4294967296 ^ (n + n) ≤ 4294967296 ^ (n + n + (n + 1 + (n + 1) + (n + 1))) := Nat.pow_le_pow_right (by omega) (by omega)
        have e2 : 4294967296 ^ (n + 1 + (n + 1) + (n + 1)) ≤ 4294967296 ^ (n + n + (n + 1 + (n + 1) + (n + 1))) := Nat.pow_le_pow_right (by omega) (by omega)
        rw [Nat.pow_succ]
        omega
      refine Ev.bind (nat_Sum3 (by omega) (by omega) (by omega) (by omega)) ?_
      refine Ev_eq (Ev.now _) ?_
      have hPP : 4294967296 ^ (2 * n) = 4294967296 ^ n * 4294967296 ^ n := by rw [Nat.two_mul, Nat.pow_add]
      rw [hPP, alg_kara, hxe, hye]
theorem mul_Mul_is {x y M : Nat} (hx : (lim x).length ≤ M) (hy : (lim y).length ≤ M) (hM : M ≤ 1000000) : Ev (fun k => mul_Mul.f k (lim x) (lim y)) (lim (x * y)) := by
  unfold mul_Mul.f
  exact Ev_id (mul_Short_is M hx hy hM)
theorem lim_mul_len {x y m p : Nat} (h1 : (lim x).length ≤ m) (h2 : (lim y).length ≤ p) : (lim (x * y)).length ≤ m + p := by
  have h1 := lim_len.1 h1
  have h2 := lim_len.1 h2
  refine lim_len.2 ?_
  rw [Nat.pow_add]
  exact Nat.mul_lt_mul'' h1 h2
theorem lim_add_len {x y m : Nat} (h1 : (lim x).length ≤ m) (h2 : (lim y).length ≤ m) : (lim (x + y)).length ≤ m + 1 := by
  have h1 := lim_len.1 h1
  have h2 := lim_len.1 h2
  refine lim_len.2 ?_
  rw [Nat.pow_succ]
  omega
theorem lim_len_mono {x y : Nat} (h : x ≤ y) : (lim x).length ≤ (lim y).length := digs_len_mono (by omega) h
theorem lim_len_one {x : Nat} (h : x < 4294967296) : (lim x).length ≤ 1 := lim_len.2 (by rw [Nat.pow_one]; exact h)

/-! ### the reference's numbers: digits of base 10000 -/
theorem ref_Trim_loop {l : List Int} (hl : Dig 10000 l) (hs : l.length ≤ 1099511627776) {x : Nat} (hx : val 10000 l = (x : Int)) : ∀ n : Nat, n ≤ l.length → (∀ j, n ≤ j → l.getD j 0 = 0) → Ev (fun k => triviumref02_Trim.l0 k l (n : Int)) (ten x) := by
  intro n
  induction n with
  | zero =>
    intro hn hz
    refine Ev.step (fun k => rfl) ?_
    have hx0 : x = 0 := by
      have := val_all_zeros 10000 l (fun j => hz j (by omega))
      omega
    refine Ev_neg (by omega) (Ev_bind1 (a := []) rfl (Ev_pos (by omega) (Ev_pos (by omega) (Ev_pos (by simp) ?_))))
    rw [hx0, show ten 0 = [] from ten_nil.2 rfl]
    exact Ev.now _
  | succ n ih =>
    intro hn hz
    refine Ev.step (fun k => rfl) ?_
    have hn2 : n < 9223372036854775808 := by omega
    refine Ev_pos (by omega) (Ev_pos (by rw [w_pred hn2]; omega) (Ev_pos (by rw [w_pred hn2]; omega) ?_))
    rw [w_pred hn2, rd_nat]
    by_cases h : l.getD n 0 = 0
    · refine Ev_pos h (ih (by omega) (fun j hj => ?_))
      rcases Nat.lt_or_ge n j with h1 | h1
      · exact hz j h1
      · rw [show j = n by omega]; exact h
    · refine Ev_neg h (Ev_bind1 (a := []) rfl (Ev_pos (by omega) (Ev_pos (by omega) (Ev_pos (by rw [List.length_take]; simp; omega) ?_))))
      rw [Int.toNat_natCast, take_digs (b := 10000) (by omega) hl (by omega) hz h hx, List.nil_append]
      exact Ev.now _
theorem ref_Trim_is {l : List Int} (hl : Dig 10000 l) (hs : l.length ≤ 1099511627776) {x : Nat} (hx : val 10000 l = (x : Int)) : Ev (fun k => triviumref02_Trim.f k l) (ten x) :=
  ref_Trim_loop hl hs hx l.length (Nat.le_refl _) (fun j hj => getD_ge hj)
theorem ref_MulAdd_tail {x : Nat} (d : Nat) : ∀ (c : Nat) (o : List Int), c < 10000 ^ d → c ≤ 1000000000000 → o.length + d ≤ 1000000000000 → Dig 10000 o → val 10000 o + 10000 ^ o.length * (c : Int) = (x : Int) → Ev (fun k => triviumref02_MulAdd.l1 k (c : Int) o) (ten x) := by
  induction d with
  | zero =>
    intro c o hc hc2 ho hdg hv
    obtain rfl : c = 0 := by rw [Nat.pow_zero] at hc; omega
    refine Ev.step (fun k => rfl) ?_
    refine Ev_neg (by omega) (Ev_id (ref_Trim_is hdg (by omega) ?_))
    rw [← hv]; simp
  | succ d ih =>
    intro c o hc hc2 ho hdg hv
    by_cases h0 : c = 0
    · subst h0
      refine Ev.step (fun k => rfl) ?_
      refine Ev_neg (by omega) (Ev_id (ref_Trim_is hdg (by omega) ?_))
      rw [← hv]; simp
    · refine Ev.step (fun k => rfl) ?_
      rw [Nat.pow_succ] at hc
      refine Ev_pos (by omega) (Ev_pos (by omega) ?_)
      rw [td (by omega), tm (by omega), s64i (by omega) (by omega)]
      have e1 : (c : Int) / 10000 = ((c / 10000 : Nat) : Int) := by omega
      rw [e1]
      refine ih (c / 10000) _ (by omega) (by omega) (by rw [List.length_append]; simp; omega) (hdg.append (Dig.cons (by omega) (Dig.nil _))) ?_
      rw [val_snoc, List.length_append, List.length_cons, List.length_nil, Int.pow_succ, ← hv]
      have e2 : (c : Int) = (c : Int) % 10000 + 10000 * ((c / 10000 : Nat) : Int) := by omega
      generalize (10000 : Int) ^ o.length = P
      generalize (c : Int) % 10000 = u at e2 ⊢
      generalize ((c / 10000 : Nat) : Int) = v at e2 ⊢
      rw [e2, Int.mul_add, Int.mul_assoc, Int.add_assoc]
theorem alg_muladd (vo P A m c u v V c0 : Int) (e : u + 10000 * v = c + A * m) (hv : vo + P * c = V * m + c0) : vo + P * u + P * 10000 * v = (V + P * A) * m + c0 := by grind
theorem ref_MulAdd_loop {a : List Int} (ha : Dig 10000 a) {m : Nat} (hm : m ≤ 4294967296) (hs : a.length ≤ 100000000000) {c0 : Int} {x : Nat} (hx : val 10000 a * (m : Int) + c0 = (x : Int)) (d : Nat) : ∀ (i : Nat) (o : List Int) (c : Nat),
    i + d = a.length → o.length = i → Dig 10000 o → c ≤ 8589934592 → val 10000 o + 10000 ^ i * (c : Int) = val 10000 (a.take i) * (m : Int) + c0 → Ev (fun k => triviumref02_MulAdd.l0 k a (m : Int) (c : Int) o (i : Int)) (ten x) := by
  induction d with
  | zero =>
    intro i o c hi ho hdg hc hv
    refine Ev.step (fun k => rfl) ?_
    refine Ev_neg (by omega) (ref_MulAdd_tail 3 c o (by omega) (by omega) (by omega) hdg ?_)
    rw [ho, hv, List.take_of_length_le (by omega), hx]
  | succ d ih =>
    intro i o c hi ho hdg hc hv
    refine Ev.step (fun k => rfl) ?_
    have hi1 : i + 1 < 9223372036854775808 := by omega
    refine Ev_pos (by omega) (Ev_pos (by omega) (Ev_pos (by omega) ?_))
    have ga := Dig.getD (by omega) ha i
    obtain ⟨A, hA⟩ := Int.eq_ofNat_of_zero_le ga.1
    rw [rd_nat, w_succ hi1]
    rw [hA] at ga
    have hAm : A * m ≤ 9999 * 4294967296 := Nat.mul_le_mul (by omega) hm
    have e1 : a.getD i 0 * (m : Int) = ((A * m : Nat) : Int) := by rw [hA, Int.natCast_mul]
    rw [e1, s64i (n := ((A * m : Nat) : Int)) (by omega) (by omega), s64i (n := (c : Int) + ((A * m : Nat) : Int)) (by omega) (by omega), td (by omega), tm (by omega), s64i (by omega) (by omega)]
    have e2 : ((c : Int) + ((A * m : Nat) : Int)) / 10000 = (((c + A * m) / 10000 : Nat) : Int) := by omega
    have e3 : ((c : Int) + ((A * m : Nat) : Int)) % 10000 = (((c + A * m) % 10000 : Nat) : Int) := by omega
    rw [e2, e3]
    refine ih (i + 1) _ _ (by omega) (by rw [List.length_append]; simp; omega) (hdg.append (Dig.cons (by omega) (Dig.nil _))) (by omega) ?_
    rw [val_snoc, ho, val_take_succ', Int.pow_succ]
    refine alg_muladd _ _ _ _ _ _ _ _ _ ?_ hv
    rw [e1]; omega
theorem ref_MulAdd_is {x m c : Nat} (hx : (ten x).length ≤ 100000000000) (hm : m ≤ 4294967296) (hc : c ≤ 4294967296) : Ev (fun k => triviumref02_MulAdd.f k (ten x) (m : Int) (c : Int)) (ten (x * m + c)) := by
  unfold triviumref02_MulAdd.f
  refine ref_MulAdd_loop (ten_dig x) hm hx (c0 := (c : Int)) ?_ (ten x).length 0 [] c (by omega) rfl (Dig.nil _) (by omega) (by simp [val])
  rw [ten_val, Int.natCast_add, Int.natCast_mul]
theorem alg_divs (A m v u r V : Int) (h : u + m * v = 10000 * r + A) : A + 10000 * (V * m + r) = (v + 10000 * V) * m + u := by grind
theorem ref_DivSmall_loop {a : List Int} (ha : Dig 10000 a) {m : Nat} (hm0 : 0 < m) (hm : m ≤ 4294967296) (hs : a.length ≤ 100000000000) {x : Nat} (hx : val 10000 a = (x : Int)) : ∀ (i : Nat) (o : List Int) (r : Nat),
    i ≤ a.length → o.length = a.length → Dig 10000 o → r < m → val 10000 (a.drop i) = val 10000 (o.drop i) * (m : Int) + (r : Int) → Ev (fun k => triviumref02_DivSmall.l0 k a (m : Int) o (r : Int) ((i : Int) - 1)) (ten (x / m), ((x % m : Nat) : Int)) := by
  intro i
  induction i with
  | zero =>
    intro o r hi ho hdg hr hv
    refine Ev.step (fun k => rfl) ?_
    rw [List.drop_zero, List.drop_zero, hx] at hv
    have hu := divmod_unique (n := (x : Int)) (d := (m : Int)) (q := val 10000 o) (r := (r : Int)) hv.symm (by omega) (by omega)
    refine Ev_neg (by omega) (Ev.bind (a := ten (x / m)) (ref_Trim_is hdg (by omega) ?_) ?_)
    · rw [← hu.1, Int.natCast_ediv]
    · refine Ev_eq (Ev.now _) ?_
      rw [← hu.2, Int.natCast_emod]
  | succ i ih =>
    intro o r hi ho hdg hr hv
    have hw : ((i + 1 : Nat) : Int) - 1 = (i : Int) := by omega
    rw [hw]
    refine Ev.step (fun k => rfl) ?_
    refine Ev_pos (by omega) (Ev_pos (by omega) (Ev_pos (by omega) (Ev_neg (by omega) (Ev_pos (by omega) ?_))))
    have ga := Dig.getD (by omega) ha i
    obtain ⟨A, hA⟩ := Int.eq_ofNat_of_zero_le ga.1
    rw [rd_nat, hA]
    rw [hA] at ga
    rw [s64i (n := (10000 : Int) * (r : Int)) (by omega) (by omega), s64i (n := (10000 : Int) * (r : Int) + (A : Int)) (by omega) (by omega), td (by omega), tm (by omega)]
    have e0 : (10000 : Int) * (r : Int) + (A : Int) = ((10000 * r + A : Nat) : Int) := by omega
    have hq : (10000 * r + A) / m < 10000 := Nat.div_lt_of_lt_mul (by have : 10000 * (r + 1) ≤ 10000 * m := Nat.mul_le_mul_left _ hr
                                                                      rw [Nat.mul_comm m]; omega)
    have hrm := Nat.mod_lt (10000 * r + A) hm0
    have hdm := Nat.mod_add_div (10000 * r + A) m
    have e1 : ((10000 * r + A : Nat) : Int) / (m : Int) = (((10000 * r + A) / m : Nat) : Int) := (Int.natCast_ediv _ _).symm
    have e2 : ((10000 * r + A : Nat) : Int) % (m : Int) = (((10000 * r + A) % m : Nat) : Int) := (Int.natCast_emod _ _).symm
    rw [e0, e1, e2, Int.toNat_natCast, s64i (n := (i : Int) - 1) (by omega) (by omega)]
    clear e0 e1 e2
    generalize (10000 * r + A) / m = q at hq hdm ⊢
    generalize (10000 * r + A) % m = u at hrm hdm ⊢
    rw [s64i (by omega) (by omega)]
    refine ih _ _ (by omega) (by rw [List.length_set]; exact ho) (hdg.set (by omega) _) hrm ?_
    rw [val_drop _ a i (by omega), val_drop _ (o.set i _) i (by rw [List.length_set]; omega), hv, getD_set_eq (by omega), List.drop_set_of_lt (by omega), hA]
    refine alg_divs _ _ _ _ _ _ ?_
    rw [← Int.natCast_mul, ← Int.natCast_add, hdm]; omega
theorem ref_DivSmall_is {x m : Nat} (hx : (ten x).length ≤ 100000000000) (hm0 : 0 < m) (hm : m ≤ 4294967296) : Ev (fun k => triviumref02_DivSmall.f k (ten x) (m : Int)) (ten (x / m), ((x % m : Nat) : Int)) := by
  unfold triviumref02_DivSmall.f
  rw [s64i (by omega) (by omega), Int.toNat_natCast]
  refine Ev_pos (by omega) (Ev_pos (by omega) ?_)
  refine ref_DivSmall_loop (ten_dig x) hm0 hm hx (ten_val x) (ten x).length _ 0 (Nat.le_refl _) (by rw [List.length_replicate]) (Dig.zeros (by omega) _) hm0 ?_
  rw [List.drop_eq_nil_of_le (Nat.le_refl _), List.drop_eq_nil_of_le (by rw [List.length_replicate]; exact Nat.le_refl _)]
  simp [val]
theorem ref_Back_loop {N : Nat} (hN : N ≤ 100000000000) (x : Nat) : ∀ (o : List Int), (ten x).length ≤ N → o.length + (lim x).length ≤ N → Ev (fun k => triviumref02_Back.l0 k (ten x) o) (o ++ lim x) := by
  refine digs_ind (P := fun x => ∀ (o : List Int), (ten x).length ≤ N → o.length + (lim x).length ≤ N → Ev (fun k => triviumref02_Back.l0 k (ten x) o) (o ++ lim x)) 4294967296 (by omega) ?_ ?_ x
  · intro o h1 h2
    refine Ev.step (fun k => rfl) ?_
    rw [show ten 0 = [] from ten_nil.2 rfl, show lim 0 = [] from lim_nil.2 rfl, List.append_nil]
    exact Ev_neg (by simp) (Ev.now _)
  · intro x hx ih o h1 h2
    refine Ev.step (fun k => rfl) ?_
    have hne : ten x ≠ [] := fun h => by have := ten_nil.1 h; omega
    have hpos : 0 < (ten x).length := List.length_pos_iff.2 hne
    have hlx : lim x = ((x % 4294967296 : Nat) : Int) :: lim (x / 4294967296) := digs_pos (by omega) hx
    rw [hlx, List.length_cons] at h2
    refine Ev_pos (by omega) (Ev.bind (ref_DivSmall_is (m := 4294967296) (by omega) (by omega) (by omega)) (Ev_pos (by omega) ?_))
    dsimp only
    rw [w64i (by omega) (by omega), hlx, List.append_cons o _ (lim (x / 4294967296))]
    refine ih (o ++ [((x % 4294967296 : Nat) : Int)]) (Nat.le_trans (digs_len_mono (by omega) (Nat.div_le_self _ _)) h1) ?_
    rw [List.length_append, List.length_singleton]; omega
theorem ref_Back_is {x : Nat} (h1 : (ten x).length ≤ 100000000000) (h2 : (lim x).length ≤ 100000000000) : Ev (fun k => triviumref02_Back.f k (ten x)) (lim x) := by
  unfold triviumref02_Back.f
  exact ref_Back_loop (N := 100000000000) (by omega) x [] h1 (by simpa using h2)
theorem lim_drop (x n : Nat) : (lim x).drop n = lim (x / 4294967296 ^ n) := by
  refine eq_lim ((lim_dig x).drop n) ?_ (lim_take x n).2
  rcases Nat.lt_or_ge n (lim x).length with h | h
  · have hn := (norm_iff (lim x)).1 (lim_norm x)
    rw [norm_iff]
    right
    rw [List.length_drop, List.getD_eq_getElem?_getD, List.getElem?_drop, ← List.getD_eq_getElem?_getD]
    rcases hn with hn | hn
    · rw [hn] at h; simp at h
    · rw [show n + ((lim x).length - n - 1) = (lim x).length - 1 by omega]; exact hn
  · rw [List.drop_eq_nil_of_le h]; trivial
theorem ref_Of_loop {x : Nat} (hs : (lim x).length ≤ 10000000000) (ht : (ten x).length ≤ 100000000000) : ∀ i : Nat, i ≤ (lim x).length → Ev (fun k => triviumref02_Of.l0 k (lim x) (ten (x / 4294967296 ^ i)) ((i : Int) - 1)) (ten x) := by
  intro i
  induction i with
  | zero =>
    intro hi
    refine Ev.step (fun k => rfl) ?_
    rw [Nat.pow_zero, Nat.div_one]
    exact Ev_neg (by omega) (Ev.now _)
  | succ i ih =>
    intro hi
    have hw : ((i + 1 : Nat) : Int) - 1 = (i : Int) := by omega
    rw [hw]
    refine Ev.step (fun k => rfl) ?_
    refine Ev_pos (by omega) (Ev_pos (by omega) (Ev_pos (by omega) ?_))
    have hi2 : i < (lim x).length := by omega
    have gx := Dig.getD (by omega) (lim_dig x) i
    have hv := val_drop 4294967296 (lim x) i hi2
    rw [(lim_take x i).2, (lim_take x (i + 1)).2] at hv
    obtain ⟨c, hc⟩ := Int.eq_ofNat_of_zero_le gx.1
    rw [rd_nat]
    rw [hc] at hv gx ⊢
    rw [tm (by omega), s64i (by omega) (by omega), Int.emod_eq_of_lt (by omega) (by omega), s64i (n := (i : Int) - 1) (by omega) (by omega)]
    have hl : (ten (x / 4294967296 ^ (i + 1))).length ≤ 100000000000 := Nat.le_trans (digs_len_mono (by omega) (Nat.div_le_self _ _)) ht
    refine Ev.bind (ref_MulAdd_is (m := 4294967296) (c := c) hl (by omega) (by omega)) ?_
    have e : x / 4294967296 ^ (i + 1) * 4294967296 + c = x / 4294967296 ^ i := by omega
    rw [e]
    exact ih (by omega)
theorem ref_Of_is {x : Nat} (hs : (lim x).length ≤ 10000000000) (ht : (ten x).length ≤ 100000000000) : Ev (fun k => triviumref02_Of.f k (lim x)) (ten x) := by
  unfold triviumref02_Of.f
  rw [s64i (by omega) (by omega)]
  have h := ref_Of_loop hs ht (lim x).length (Nat.le_refl _)
  have h0 : x / 4294967296 ^ (lim x).length = 0 := Nat.div_eq_of_lt (lim_len.1 (Nat.le_refl _))
  rw [h0, show ten 0 = [] from ten_nil.2 rfl] at h
  exact h
theorem ten_of_lim {x n : Nat} (h : (lim x).length ≤ n) : (ten x).length ≤ 3 * n := by
  have h1 := lim_len.1 h
  refine ten_len.2 (Nat.lt_of_lt_of_le h1 ?_)
  rw [Nat.pow_mul]
  exact Nat.pow_le_pow_left (by omega) n

/-! ### Clean, Same -/
def cleaned (l : List Int) (n : Nat) : Nat := (val 4294967296 ((l.take n).map (· % 4294967296))).toNat
theorem cleaned_dig (l : List Int) : Dig 4294967296 (l.map (· % 4294967296)) := fun x hx => by
  obtain ⟨y, _, rfl⟩ := List.mem_map.1 hx
  omega
theorem ref_Clean_l1 {N : Nat} (hN : N ≤ 1000000000) : ∀ (n : Nat) {l : List Int}, l.length = n → n ≤ N → Dig 4294967296 l → {x : Nat} → (hx : val 4294967296 l = (x : Int)) → Ev (fun k => triviumref02_Clean.l1 k l) (lim x) := by
  intro n
  induction n with
  | zero =>
    intro l hl hn hd x hx
    refine Ev.step (fun k => rfl) ?_
    obtain rfl : l = [] := List.eq_nil_of_length_eq_zero hl
    refine Ev_neg (by simp) ?_
    rw [val_nil] at hx
    rw [show lim x = [] from lim_nil.2 (by omega)]
    exact Ev.now _
  | succ n ih =>
    intro l hl hn hd x hx
    refine Ev.step (fun k => rfl) ?_
    have hw : wrap64 ((l.length : Int) - 1) = (n : Int) := by rw [hl]; exact w_pred (by omega)
    refine Ev_pos (by omega) (Ev_pos (by rw [hw]; omega) (Ev_pos (by rw [hw]; omega) ?_))
    rw [hw, rd_nat]
    clear hw
    by_cases h : l.getD n 0 = 0
    · refine Ev_pos h (Ev_pos (by omega) ?_)
      rw [Int.toNat_natCast]
      refine ih (by rw [List.length_take]; omega) (by omega) (hd.take n) ?_
      have := val_take_succ 4294967296 l n (by omega)
      rw [List.take_of_length_le (by omega), h, Int.mul_zero, Int.add_zero] at this
      rw [← this, hx]
    · refine Ev_neg h ?_
      have := take_digs (b := 4294967296) (by omega) hd (n := n) (by omega) (fun j hj => getD_ge (by omega)) h hx
      rw [List.take_of_length_le (by omega)] at this
      rw [this]
      exact Ev.now _
theorem ref_Clean_l0 (l : List Int) (hw : ∀ x ∈ l, 0 ≤ x) (n : Nat) (hn : n ≤ 1000) (hs : l.length ≤ 1000000000000000) (d : Nat) : ∀ i : Nat, i + d = min l.length n → Ev (fun k => triviumref02_Clean.l0 k l (n : Int) ((l.take i).map (· % 4294967296)) (i : Int)) (lim (cleaned l n)) := by
  have last : ∀ i : Nat, i = min l.length n → Ev (fun k => triviumref02_Clean.j1 k ((l.take i).map (· % 4294967296))) (lim (cleaned l n)) := by
    intro i hi
    refine Ev.step (fun k => rfl) ?_
    have e : l.take n = l.take i := by
      rcases Nat.le_total n l.length with h | h
      · rw [hi, Nat.min_eq_right h]
      · rw [hi, Nat.min_eq_left h, List.take_of_length_le h, List.take_of_length_le (Nat.le_refl _)]
    refine ref_Clean_l1 (N := 1000) (by omega) _ rfl (by rw [List.length_map, List.length_take]; omega) (cleaned_dig _) ?_
    unfold cleaned
    rw [e, toNat_val (by omega) (cleaned_dig _)]
  induction d with
  | zero =>
    intro i hi
    refine Ev.step (fun k => rfl) ?_
    by_cases h : (i : Int) < (l.length : Int)
    · exact Ev_pos h (Ev_neg (by omega) (last i (by omega)))
    · exact Ev_neg h (last i (by omega))
  | succ d ih =>
    intro i hi
    refine Ev.step (fun k => rfl) ?_
    have hi1 : i + 1 < 9223372036854775808 := by omega
    have hil : i < l.length := by omega
    have h0 : 0 ≤ l.getD i 0 := by
      rw [List.getD_eq_getElem?_getD, List.getElem?_eq_getElem hil]
      exact hw _ (List.getElem_mem hil)
    refine Ev_pos (by omega) (Ev_pos (by omega) (Ev_pos (by omega) (Ev_pos (by rw [List.length_map, List.length_take]; omega) ?_)))
    rw [rd_nat, w_succ hi1, tm h0]
    have e : (l.take i).map (· % 4294967296) ++ [l.getD i 0 % 4294967296] = (l.take (i + 1)).map (· % 4294967296) := by
      rw [take_snoc_getD l i hil, List.map_append]; rfl
    rw [e]
    exact ih (i + 1) (by omega)
theorem ref_Clean_is {l : List Int} (hw : ∀ x ∈ l, 0 ≤ x) {n : Nat} (hn : n ≤ 1000) (hs : l.length ≤ 1000000000000000) : Ev (fun k => triviumref02_Clean.f k l (n : Int)) (lim (cleaned l n)) :=
  ref_Clean_l0 l hw n hn hs (min l.length n) 0 (by omega)
theorem cleaned_len (l : List Int) (n : Nat) : (lim (cleaned l n)).length ≤ n := by
  refine lim_len.2 ?_
  have h := val_lt (b := 4294967296) (by omega) (cleaned_dig (l.take n))
  rw [List.length_map, List.length_take] at h
  have h2 : (4294967296 : Int) ^ (min n l.length) ≤ 4294967296 ^ n := powb_mono (by omega) (Nat.min_le_left _ _)
  have h3 := toNat_val (b := 4294967296) (by omega) (cleaned_dig (l.take n))
  unfold cleaned
  have h4 : ((val 4294967296 ((l.take n).map (· % 4294967296))).toNat : Int) < (4294967296 : Int) ^ n := by omega
  rw [← pow32] at h4
  omega
theorem ref_Same_loop (l m : List Int) (hl : l.length = m.length) (hs : l.length ≤ 1000000000000000) (d : Nat) : ∀ i : Nat, i + d = l.length → l.take i = m.take i → Ev (fun k => triviumref02_Same.l0 k l m (i : Int)) (decide (l = m)) := by
  induction d with
  | zero =>
    intro i hi he
    refine Ev.step (fun k => rfl) ?_
    rw [List.take_of_length_le (by omega), List.take_of_length_le (by omega)] at he
    rw [decide_eq_true he]
    exact Ev_neg (by omega) (Ev.now _)
  | succ d ih =>
    intro i hi he
    refine Ev.step (fun k => rfl) ?_
    have hi1 : i + 1 < 9223372036854775808 := by omega
    refine Ev_pos (by omega) (Ev_pos (by omega) (Ev_pos (by omega) ?_))
    rw [rd_nat, rd_nat, w_succ hi1]
    by_cases h : l.getD i 0 = m.getD i 0
    · refine Ev_pos h (ih (i + 1) (by omega) ?_)
      rw [take_snoc_getD l i (by omega), take_snoc_getD m i (by omega), he, h]
    · refine Ev_neg h ?_
      rw [decide_eq_false (fun hlm => h (by rw [hlm]))]
      exact Ev.now _
theorem ref_Same_is (l m : List Int) (hs : l.length ≤ 1000000000000000) : Ev (fun k => triviumref02_Same.f k l m) (decide (l = m)) := by
  unfold triviumref02_Same.f
  by_cases h : (l.length : Int) = (m.length : Int)
  · exact Ev_pos h (ref_Same_loop l m (by omega) hs l.length 0 (by omega) rfl)
  · refine Ev_neg h ?_
    rw [decide_eq_false (fun hlm => h (by rw [hlm]))]
    exact Ev.now _
theorem ref_Same_refl (l : List Int) (hs : l.length ≤ 1000000000000000) : Ev (fun k => triviumref02_Same.f k l l) true := by
  have := ref_Same_is l l hs
  rwa [decide_eq_true rfl] at this

theorem mul_works : Ev (fun k => triviumlaw03_works.f k) true := by
  unfold triviumlaw03_works.f
  have h5 : ([5] : List Int) = lim 5 := (digs_one (b := 4294967296) (x := 5) (by decide) (by decide) (by decide)).symm
  have h16 : lim 16 = ([16] : List Int) := digs_one (b := 4294967296) (x := 16) (by decide) (by decide) (by decide)
  have hl : (lim 5).length ≤ 1 := by rw [← h5]; simp
  have hs := mul_Small_is (x := 5) (by omega) (m := 3) (c := 1) (by omega) (by omega)
  rw [show 5 * ((3 : Int) % 4294967296).toNat + ((1 : Int) % 4294967296).toNat = 16 from rfl, h16] at hs
  rw [h5]
  refine Ev.bind hs (Ev_pos (by decide) (Ev_pos (by decide) (Ev_pos (by decide) ?_)))
  have h0 : ([] : List Int) = lim 0 := (lim_nil.2 rfl).symm
  have hm := mul_Mul_is (x := 16) (y := 0) (M := 1) (by rw [h16]; simp) (by rw [← h0]; simp) (by omega)
  rw [Nat.mul_zero, ← h0, h16] at hm
  exact Ev.bind hm (Ev.now _)

theorem ref03_Small_is {x : Nat} (hx : (lim x).length ≤ 1000) {m c : Int} (hm : 0 ≤ m ∧ m < 18446744073709551616) (hc : 0 ≤ c ∧ c < 18446744073709551616) : Ev (fun k => triviumref03_Small.f k (lim x) m c) (lim (x * (m % 4294967296).toNat + (c % 4294967296).toNat)) := by
  unfold triviumref03_Small.f
  have tx := ten_of_lim hx
  rw [tm hm.1, tm hc.1, s64i (n := m % 4294967296) (by omega) (by omega), s64i (n := c % 4294967296) (by omega) (by omega)]
  obtain ⟨M, hM⟩ := Int.eq_ofNat_of_zero_le (show 0 ≤ m % 4294967296 by omega)
  obtain ⟨C, hC⟩ := Int.eq_ofNat_of_zero_le (show 0 ≤ c % 4294967296 by omega)
  have hM2 : M < 4294967296 := by omega
  have hC2 : C < 4294967296 := by omega
  rw [hM, hC, Int.toNat_natCast, Int.toNat_natCast]
  have hl : (lim (x * M + C)).length ≤ 1002 := Nat.le_trans (lim_add_len (m := 1001) (lim_mul_len hx (lim_len_one hM2)) (Nat.le_trans (lim_len_one hC2) (by omega))) (by omega)
  have tl := ten_of_lim hl
  exact Ev.bind (ref_Of_is (by omega) (by omega)) (Ev.bind (ref_MulAdd_is (by omega) (by omega) (by omega)) (Ev_id (ref_Back_is (by omega) (by omega))))
theorem MulSmalls : triviumlaw03_MulSmalls.Pure := by
  intro l0 m c _ b0 w0 hm hc
  have hm := wf_u64 hm
  have hc := wf_u64 hc
  refine Ev.rounds ?_
  unfold triviumlaw03_MulSmalls.f
  refine Ev.bind (ref_Clean_is (n := 20) (fun x hx => (wf_u64 (w0 x hx)).1) (by omega) (by omega)) ?_
  have hx := cleaned_len l0 20
  generalize cleaned l0 20 = x at hx ⊢
  refine Ev.bind (mul_Small_is (by omega) hm hc) ?_
  refine Ev.bind (ref03_Small_is (by omega) hm hc) ?_
  refine Ev.bind (ref_Same_refl _ ?_) (Ev_pos rfl (Ev_id mul_works))
  have h1 := lim_mul_len (x := x) (y := (m % 4294967296).toNat) (m := 20) (p := 1) hx (lim_len_one (by omega))
  have h2 := lim_len_one (x := (c % 4294967296).toNat) (by omega)
  have h3 := lim_add_len (m := 21) (x := x * (m % 4294967296).toNat) (y := (c % 4294967296).toNat) (by omega) (by omega)
  omega

end Go.Proofs.Ytcmajlphfnihgaa.Pure
