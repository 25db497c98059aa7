/- The law of readers: its function answers true, whatever the text, whatever is asked. -/
import Derived.Test.YtlpbmajbalenjaaLex9
import Derived.Test.YtlpbmajbalenjaaWlaw19LexReads
import Derived.Test.YtlpbmajbalenjaaWX
set_option linter.unusedVariables false
set_option linter.unusedSimpArgs false
set_option maxRecDepth 100000
namespace Go.Proofs.YtlpbmajbalenjaaA
open Go Go.Proofs
def kws : List ByteArray := [⟨#[110, 101, 116, 119, 111, 114, 107]⟩, ⟨#[110, 111, 100, 101]⟩, ⟨#[104, 111, 109, 101]⟩, ⟨#[108, 105, 110, 107]⟩, ⟨#[102, 97, 105, 108]⟩, ⟨#[114, 117, 108, 101]⟩, ⟨#[100, 114, 111, 112]⟩, ⟨#[118, 105, 97]⟩, ⟨#[101, 108, 115, 101]⟩, ⟨#[112, 114, 111, 98]⟩, ⟨#[104, 111, 112, 115]⟩, ⟨#[119, 105, 116, 104, 105, 110]⟩, ⟨#[99, 111, 109, 112, 97, 114, 101]⟩]
def kwFrom (p : ByteArray) (k : Nat) : Bool := (kws.drop k).any fun x => decide (p = x)
def kwB (p : ByteArray) : Bool := kwFrom p 0
theorem kwFrom_step {p : ByteArray} {k : Nat} (h : k < kws.length) : kwFrom p k = (decide (p = kws.getD k ByteArray.empty) || kwFrom p (k + 1)) := by
 unfold kwFrom
 have e : kws.drop k = kws[k] :: kws.drop (k + 1) := List.drop_eq_getElem_cons h
 have e2 : kws.getD k ByteArray.empty = kws[k] := by rw [List.getD_eq_getElem?_getD, List.getElem?_eq_getElem h]; rfl
 rw [e, e2, List.any_cons]
theorem kw_ref_loop {p : ByteArray} : ∀ m k : Nat, kws.length - k = m → ref17_Keyword_l0 p kws (k : Int) (kwFrom p k) := by
 intro m
 induction m with
 | zero =>
  intro k h
  refine ref17_Keyword_l0_go (.inr ⟨by omega, ?_⟩)
  unfold kwFrom
  rw [List.drop_eq_nil_of_le (by omega)]; simp
 | succ m ih =>
  intro k h
  have hk : k < kws.length := by omega
  have hk2 : k < 13 := hk
  have e : kws.getD ((k : Int)).toNat ByteArray.empty = kws.getD k ByteArray.empty := rfl
  refine ref17_Keyword_l0_go (.inl ⟨by omega, by omega, ?_⟩)
  rw [e, kwFrom_step hk]
  by_cases h1 : kws.getD k ByteArray.empty = p
  ·exact .inl ⟨h1, by rw [h1]; simp⟩
  ·refine .inr ⟨h1, ?_⟩
   have h2 : decide (p = kws.getD k ByteArray.empty) = false := decide_eq_false fun e => h1 e.symm
   rw [h2, Bool.false_or, wi_succ k (by omega)]
   exact ih (k + 1) (by omega)
theorem kw_ref (p : ByteArray) : ref17_Keyword_R p (kwB p) := ref17_Keyword_go ⟨kws, ref17_Keywords_go rfl, kw_ref_loop _ 0 rfl⟩
theorem kw_lex_loop {p : ByteArray} : ∀ m k : Nat, kws.length - k = m → ∃ z : Int, slices_Index___string_string__l0 kws p (kws.length : Int) (k : Int) z ∧ decide (0 ≤ z) = kwFrom p k := by
 intro m
 induction m with
 | zero =>
  intro k h
  refine ⟨-1, slices_Index___string_string__l0_go (.inr ⟨by omega, rfl⟩), ?_⟩
  unfold kwFrom
  rw [List.drop_eq_nil_of_le (by omega)]; simp
 | succ m ih =>
  intro k h
  have hk : k < kws.length := by omega
  have hk2 : k < 13 := hk
  have e : kws.getD ((k : Int)).toNat ByteArray.empty = kws.getD k ByteArray.empty := rfl
  rw [kwFrom_step hk]
  by_cases h1 : p = kws.getD k ByteArray.empty
  ·exact ⟨(k : Int), slices_Index___string_string__l0_go (.inl ⟨by omega, by omega, by omega, .inl ⟨by rw [e]; exact h1, rfl⟩⟩), by simp [h1]⟩
  ·obtain ⟨z, h2, h3⟩ := ih (k + 1) (by omega)
   refine ⟨z, slices_Index___string_string__l0_go (.inl ⟨by omega, by omega, by omega, .inr ⟨by rw [e]; exact h1, by rw [wi_succ k (by omega)]; exact h2⟩⟩), ?_⟩
   rw [decide_eq_false h1, Bool.false_or]; exact h3
theorem kw_lex (p : ByteArray) : name_Keyword_R p (kwB p) := by
 obtain ⟨z, h1, h2⟩ := kw_lex_loop (p := p) _ 0 rfl
 exact name_Keyword_go ⟨kws, name_Keywords_go rfl, kwB p, slices_Contains___string_string__go ⟨z, slices_Index___string_string__go h1, h2.symm⟩, rfl⟩
theorem name_is {t : Tk} (h : TokOk t) (h1 : t.1 = 1) : name_Name_R t.2.1 (!kwB t.2.1) :=
 name_Name_go ⟨true, tok_word h h1, .inl ⟨rfl, _, kw_lex _, rfl⟩⟩
section
variable {ts : List Tk} {ln : Int}
theorem getD_tk {k : Nat} (h : k < ts.length) : ts.getD k (0, ByteArray.empty, 0) = ts[k] := by
 rw [List.getD_eq_getElem?_getD, List.getElem?_eq_getElem h]; rfl
theorem drop_tk {k : Nat} (h : k < ts.length) : ts.drop k = ts[k] :: ts.drop (k + 1) := List.drop_eq_getElem_cons h
theorem drop_tk1 {k : Nat} (h : k < ts.length) : (ts.drop k).drop 1 = ts.drop (k + 1) := by rw [List.drop_drop]
def Took (ts : List Tk) (k : Nat) (p : Tk → Bool) (x : ByteArray) (b : Bool) (k' : Nat) : Prop :=
 (∃ h : k < ts.length, p ts[k] = true ∧ x = (ts[k]).2.1 ∧ b = true ∧ k' = k + 1) ∨ ((∀ h : k < ts.length, ¬ p ts[k] = true) ∧ x = ⟨#[]⟩ ∧ b = false ∧ k' = k)
theorem took (ts : List Tk) (k : Nat) (p : Tk → Bool) : ∃ x b k', Took ts k p x b k' ∧ (k ≤ ts.length → k' ≤ ts.length) := by
 by_cases h : k < ts.length
 ·by_cases h1 : p ts[k] = true
  ·exact ⟨_, _, _, .inl ⟨h, h1, rfl, rfl, rfl⟩, fun _ => by omega⟩
  ·exact ⟨_, _, _, .inr ⟨fun _ => h1, rfl, rfl, rfl⟩, fun h => h⟩
 ·exact ⟨_, _, _, .inr ⟨fun h' => absurd h' h, rfl, rfl, rfl⟩, fun h => h⟩
def pName (t : Tk) : Bool := decide (t.1 = 1) && !kwB t.2.1
def pFigure (t : Tk) : Bool := decide (t.1 = 2)
theorem done_is (k : Nat) : __lex_Reader__Done_v1_R (ts.drop k) ln (decide (ts.length ≤ k)) := by
 refine __lex_Reader__Done_v1_go ?_
 rw [List.length_drop]
 by_cases h : ts.length ≤ k
 ·rw [decide_eq_true h]; exact (decide_eq_true (by omega)).symm
 ·rw [decide_eq_false h]; exact (decide_eq_false (by omega)).symm
theorem lex_name (hok : ∀ t ∈ ts, TokOk t) {k : Nat} {x : ByteArray} {b : Bool} {k' : Nat} (h : Took ts k pName x b k') (hk : k ≤ ts.length) : __lex_Reader__Name_M_R (ts.drop k) ln x b (ts.drop k') ln := by
 refine __lex_Reader__Name_M_go ⟨x, b, ts.drop k', ln, __lex_Reader__take_M_go ?_, rfl, rfl, rfl, rfl⟩
 refine ⟨_, done_is k, ?_⟩
 by_cases hl : k < ts.length
 ·have hd : ¬ decide (ts.length ≤ k) = true := by simp; omega
  have h1 : TokOk ts[k] := hok _ (List.getElem_mem hl)
  refine .inr ⟨hd, by rw [List.length_drop]; omega, (ts[k]).1, (ts[k]).2.1, (ts[k]).2.2, by rw [drop_tk hl]; rfl, ?_⟩
  by_cases hw : (ts[k]).1 = 1
  ·refine ⟨!kwB (ts[k]).2.1, __lex_Reader__Name_1_go (.inl ⟨hw, _, name_is h1 hw, rfl⟩), ?_⟩
   rcases h with ⟨_, h2, rfl, rfl, rfl⟩ | ⟨h2, rfl, rfl, rfl⟩
   ·unfold pName at h2
    rw [decide_eq_true hw, Bool.true_and] at h2
    exact .inl ⟨h2, (ts[k]).1, (ts[k]).2.1, (ts[k]).2.2, by rw [drop_tk hl]; rfl, by rw [List.length_drop]; omega, rfl, rfl, (drop_tk1 hl).symm, rfl⟩
   ·have h2 := h2 hl
    unfold pName at h2
    rw [decide_eq_true hw, Bool.true_and] at h2
    exact .inr ⟨h2, rfl, rfl, rfl, rfl⟩
  ·refine ⟨false, __lex_Reader__Name_1_go (.inr ⟨hw, rfl⟩), .inr ⟨by decide, ?_⟩⟩
   rcases h with ⟨_, h2, _⟩ | ⟨h2, rfl, rfl, rfl⟩
   ·unfold pName at h2; rw [decide_eq_false hw] at h2; cases h2
   ·exact ⟨rfl, rfl, rfl, rfl⟩
 ·have hd : decide (ts.length ≤ k) = true := by simp; omega
  rcases h with ⟨h2, _⟩ | ⟨_, rfl, rfl, rfl⟩
  ·exact absurd h2 hl
  ·exact .inl ⟨hd, rfl, rfl, rfl, rfl⟩
theorem lex_figure {k : Nat} {x : ByteArray} {b : Bool} {k' : Nat} (h : Took ts k pFigure x b k') (hk : k ≤ ts.length) : __lex_Reader__Figure_M_R (ts.drop k) ln x b (ts.drop k') ln := by
 refine __lex_Reader__Figure_M_go ⟨x, b, ts.drop k', ln, __lex_Reader__take_M1_go ?_, rfl, rfl, rfl, rfl⟩
 refine ⟨_, done_is k, ?_⟩
 by_cases hl : k < ts.length
 ·have hd : ¬ decide (ts.length ≤ k) = true := by simp; omega
  refine .inr ⟨hd, by rw [List.length_drop]; omega, (ts[k]).1, (ts[k]).2.1, (ts[k]).2.2, by rw [drop_tk hl]; rfl, _, __lex_Reader__Figure_1_go rfl, ?_⟩
  rcases h with ⟨_, h2, rfl, rfl, rfl⟩ | ⟨h2, rfl, rfl, rfl⟩
  ·exact .inl ⟨h2, (ts[k]).1, (ts[k]).2.1, (ts[k]).2.2, by rw [drop_tk hl]; rfl, by rw [List.length_drop]; omega, rfl, rfl, (drop_tk1 hl).symm, rfl⟩
  ·exact .inr ⟨h2 hl, rfl, rfl, rfl, rfl⟩
 ·have hd : decide (ts.length ≤ k) = true := by simp; omega
  rcases h with ⟨h2, _⟩ | ⟨_, rfl, rfl, rfl⟩
  ·exact absurd h2 hl
  ·exact .inl ⟨hd, rfl, rfl, rfl, rfl⟩
def pText (u : ByteArray) (t : Tk) : Bool := decide (t.2.1 = u)
def isAt (ts : List Tk) (k : Nat) (u : ByteArray) : Bool := match ts[k]? with | some t => pText u t | none => false
theorem lex_is (k : Nat) (u : ByteArray) : __lex_Reader__Is_v1_R (ts.drop k) ln u (isAt ts k u) := by
 refine __lex_Reader__Is_v1_go ⟨_, done_is k, ?_⟩
 unfold isAt
 by_cases hl : k < ts.length
 ·have hd : ¬ decide (ts.length ≤ k) = true := by simp; omega
  rw [List.getElem?_eq_getElem hl]
  exact .inr ⟨hd, by rw [List.length_drop]; omega, (ts[k]).1, (ts[k]).2.1, (ts[k]).2.2, by rw [drop_tk hl]; rfl, rfl⟩
 ·have hd : decide (ts.length ≤ k) = true := by simp; omega
  rw [List.getElem?_eq_none (by omega)]
  exact .inl ⟨hd, rfl⟩
theorem lex_take {k : Nat} {u x : ByteArray} {b : Bool} {k' : Nat} (h : Took ts k (pText u) x b k') : __lex_Reader__Take_M_R (ts.drop k) ln u b (ts.drop k') ln := by
 refine __lex_Reader__Take_M_go ⟨_, lex_is k u, ?_⟩
 unfold isAt
 rcases h with ⟨hl, h2, _, rfl, rfl⟩ | ⟨h2, _, rfl, h4⟩
 ·rw [List.getElem?_eq_getElem hl]
  exact .inl ⟨h2, by rw [List.length_drop]; omega, h2.symm, (drop_tk1 hl).symm, rfl⟩
 ·obtain rfl : k = k' := h4.symm
  by_cases hl : k < ts.length
  ·rw [List.getElem?_eq_getElem hl]
   have := h2 hl
   exact .inr ⟨this, (Bool.eq_false_iff.2 this).symm, rfl, rfl⟩
  ·rw [List.getElem?_eq_none (by omega)]
   exact .inr ⟨(by intro h; cases h), rfl, rfl, rfl⟩
theorem lex_line (k : Nat) : __lex_Reader__Line_v1_R (ts.drop k) ln (match ts[k]? with | some t => t.2.2 | none => ln) := by
 refine __lex_Reader__Line_v1_go ?_
 by_cases hl : k < ts.length
 ·rw [List.getElem?_eq_getElem hl]
  exact .inr ⟨by rw [List.length_drop]; omega, by rw [List.length_drop]; omega, (ts[k]).1, (ts[k]).2.1, (ts[k]).2.2, by rw [drop_tk hl]; rfl, rfl⟩
 ·rw [List.getElem?_eq_none (by omega)]
  exact .inl ⟨by rw [List.length_drop]; omega, rfl⟩
theorem ref_line (k : Nat) : __ref19_Reader__Line_v0_R ts (k : Int) ln (match ts[k]? with | some t => t.2.2 | none => ln) := by
 refine __ref19_Reader__Line_v0_go ?_
 by_cases hl : k < ts.length
 ·rw [List.getElem?_eq_getElem hl]
  exact .inl ⟨by omega, by omega, (ts[k]).1, (ts[k]).2.1, (ts[k]).2.2, getD_tk hl, rfl⟩
 ·rw [List.getElem?_eq_none (by omega)]
  exact .inr ⟨by omega, rfl⟩
theorem wi_back (hn : ts.length < 1000000) {k : Nat} (h : k < ts.length) : wi (wi ((k : Int) + 1) - 1) = (k : Int) := by
 rw [wi_succ k (by omega), show ((k + 1 : Nat) : Int) - 1 = (k : Int) + ((0 : Nat) : Int) by omega, wi_nat (by omega)]; rfl
theorem ref_name (hn : ts.length < 1000000) {k : Nat} {x : ByteArray} {b : Bool} {k' : Nat} (h : Took ts k pName x b k') : __ref19_Reader__Name_M_R ts (k : Int) ln x b ts (k' : Int) ln := by
 refine __ref19_Reader__Name_M_go ?_
 by_cases hl : k < ts.length
 ·have hg : ts.getD ((k : Int)).toNat (0, ByteArray.empty, 0) = ((ts[k]).1, (ts[k]).2.1, (ts[k]).2.2) := getD_tk hl
  refine .inl ⟨by omega, by omega, _, _, _, hg, ?_⟩
  by_cases hw : (ts[k]).1 = 1
  ·refine .inl ⟨hw, _, _, _, hg, _, kw_ref _, ?_⟩
   rcases h with ⟨_, h2, rfl, rfl, rfl⟩ | ⟨h2, rfl, rfl, rfl⟩
   ·unfold pName at h2
    rw [decide_eq_true hw, Bool.true_and, Bool.not_eq_true'] at h2
    refine .inr ⟨by rw [h2]; decide, by rw [wi_back hn hl]; omega, by rw [wi_back hn hl]; omega, _, _, _, by rw [wi_back hn hl]; exact hg, rfl, rfl, rfl, (wi_succ k (by omega)).symm, rfl⟩
   ·have h2 := h2 hl
    unfold pName at h2
    rw [decide_eq_true hw, Bool.true_and, Bool.not_eq_true, Bool.not_eq_false'] at h2
    exact .inl ⟨h2, rfl, rfl, rfl, rfl, rfl⟩
  ·refine .inr ⟨hw, ?_⟩
   rcases h with ⟨_, h2, _⟩ | ⟨h2, rfl, rfl, rfl⟩
   ·unfold pName at h2; rw [decide_eq_false hw] at h2; cases h2
   ·exact ⟨rfl, rfl, rfl, rfl, rfl⟩
 ·rcases h with ⟨h2, _⟩ | ⟨_, rfl, rfl, rfl⟩
  ·exact absurd h2 hl
  ·exact .inr ⟨by omega, rfl, rfl, rfl, rfl, rfl⟩
theorem ref_figure (hn : ts.length < 1000000) {k : Nat} {x : ByteArray} {b : Bool} {k' : Nat} (h : Took ts k pFigure x b k') : __ref19_Reader__Figure_M_R ts (k : Int) ln x b ts (k' : Int) ln := by
 refine __ref19_Reader__Figure_M_go ?_
 by_cases hl : k < ts.length
 ·have hg : ts.getD ((k : Int)).toNat (0, ByteArray.empty, 0) = ((ts[k]).1, (ts[k]).2.1, (ts[k]).2.2) := getD_tk hl
  refine .inl ⟨by omega, by omega, _, _, _, hg, ?_⟩
  rcases h with ⟨_, h2, rfl, rfl, rfl⟩ | ⟨h2, rfl, rfl, rfl⟩
  ·exact .inl ⟨of_decide_eq_true h2, by rw [wi_back hn hl]; omega, by rw [wi_back hn hl]; omega, _, _, _, by rw [wi_back hn hl]; exact hg, rfl, rfl, rfl, (wi_succ k (by omega)).symm, rfl⟩
  ·exact .inr ⟨fun e => h2 hl (decide_eq_true e), rfl, rfl, rfl, rfl, rfl⟩
 ·rcases h with ⟨h2, _⟩ | ⟨_, rfl, rfl, rfl⟩
  ·exact absurd h2 hl
  ·exact .inr ⟨by omega, rfl, rfl, rfl, rfl, rfl⟩
theorem ref_take (hn : ts.length < 1000000) {k : Nat} {u x : ByteArray} {b : Bool} {k' : Nat} (h : Took ts k (pText u) x b k') : __ref19_Reader__Take_M_R ts (k : Int) ln u b ts (k' : Int) ln := by
 refine __ref19_Reader__Take_M_go ?_
 by_cases hl : k < ts.length
 ·have hg : ts.getD ((k : Int)).toNat (0, ByteArray.empty, 0) = ((ts[k]).1, (ts[k]).2.1, (ts[k]).2.2) := getD_tk hl
  refine .inl ⟨by omega, by omega, _, _, _, hg, ?_⟩
  rcases h with ⟨_, h2, _, rfl, rfl⟩ | ⟨h2, _, rfl, rfl⟩
  ·exact .inl ⟨of_decide_eq_true h2, rfl, rfl, (wi_succ k (by omega)).symm, rfl⟩
  ·exact .inr ⟨fun e => h2 hl (decide_eq_true e), rfl, rfl, rfl, rfl⟩
 ·rcases h with ⟨h2, _⟩ | ⟨_, _, rfl, rfl⟩
  ·exact absurd h2 hl
  ·exact .inr ⟨by omega, rfl, rfl, rfl, rfl⟩
variable {acts : List T_law19_Act}
theorem reads_l11 (hok : ∀ t ∈ ts, TokOk t) (hn : ts.length < 1000000) {i : Nat} (hi : i < 40) (next : ∀ k', k' ≤ ts.length → law19_LexReads_l3 acts ts 0 ((i + 1 : Nat) : Int) ts (k' : Int) ln (ts.drop k') ln true) (k : Nat) (hk : k ≤ ts.length) (g ab : Int) (ae : ByteArray) :
  law19_LexReads_l11 acts ts 0 (i : Int) g ab ae ts (k : Int) ln (ts.drop k) ln true := by
 have fin : ∀ (x : ByteArray) (b : Bool) (k' : Nat), k' ≤ ts.length → law19_LexReads_l12 acts ts 0 (i : Int) x x b b ts (k' : Int) ln (ts.drop k') ln true := fun x b k' hk' => by
  have h3 : law19_LexReads_l13 acts ts 0 (i : Int) ts (k' : Int) ln (ts.drop k') ln true := law19_LexReads_l13_go (by rw [wi_succ i (by omega)]; exact next k' hk')
  refine law19_LexReads_l12_go (.inl ⟨rfl, ?_⟩)
  cases b with
  | true => exact .inl ⟨rfl, .inl ⟨rfl, h3⟩⟩
  | false => exact .inr ⟨by decide, .inr ⟨by decide, h3⟩⟩
 refine law19_LexReads_l11_go ?_
 by_cases h1 : g = 1
 ·obtain ⟨x, b, k', h2, h3⟩ := took ts k pName
  exact .inl ⟨h1, x, b, _, _, lex_name hok h2 hk, x, b, _, _, _, ref_name hn h2, fin x b k' (h3 hk)⟩
 ·refine .inr ⟨h1, ?_⟩
  by_cases h2 : g = 2
  ·obtain ⟨x, b, k', h2', h3⟩ := took ts k pFigure
   exact .inl ⟨h2, x, b, _, _, lex_figure h2' hk, x, b, _, _, _, ref_figure hn h2', fin x b k' (h3 hk)⟩
  ·obtain ⟨x, b, k', h2', h3⟩ := took ts k (pText ae)
   exact .inr ⟨h2, b, _, _, lex_take h2', b, _, _, _, ref_take hn h2', fin ⟨#[]⟩ b k' (h3 hk)⟩
theorem among_is (a : Int) : triviumbase_Among_R a 4 (wi ((wu a).tmod (wu 4))) := triviumbase_Among_go (.inr ⟨by decide, by decide, rfl⟩)
theorem reads_l9 (hok : ∀ t ∈ ts, TokOk t) (hn : ts.length < 1000000) {i : Nat} (hi : i < 40) (next : ∀ k', k' ≤ ts.length → law19_LexReads_l3 acts ts 0 ((i + 1 : Nat) : Int) ts (k' : Int) ln (ts.drop k') ln true) (k : Nat) (hk : k ≤ ts.length) (ab : Int) (ae : ByteArray) :
  law19_LexReads_l9 acts ts 0 (i : Int) ab ae ts (k : Int) ln (ts.drop k) ln true := by
 refine law19_LexReads_l9_go ⟨_, among_is ab, ?_⟩
 by_cases h3 : wi ((wu ab).tmod (wu 4)) = 3
 ·refine .inl ⟨h3, ?_⟩
  by_cases hl : k < ts.length
  ·exact .inl ⟨by omega, by omega, _, _, _, getD_tk hl, reads_l11 hok hn hi next k hk _ _ _⟩
  ·exact .inr ⟨by omega, reads_l11 hok hn hi next k hk _ _ _⟩
 ·exact .inr ⟨h3, reads_l11 hok hn hi next k hk _ _ _⟩
theorem reads_l3 (hok : ∀ t ∈ ts, TokOk t) (hn : ts.length < 1000000) : ∀ m i : Nat, 40 - i = m → ∀ k, k ≤ ts.length → law19_LexReads_l3 acts ts 0 (i : Int) ts (k : Int) ln (ts.drop k) ln true := by
 intro m
 induction m with
 | zero =>
  intro i hi k hk
  have h7 : law19_LexReads_l7 true := law19_LexReads_l7_go ⟨true, works_is, rfl⟩
  refine law19_LexReads_l3_go ?_
  by_cases h : (i : Int) < (acts.length : Int)
  ·exact .inl ⟨h, .inr ⟨by omega, h7⟩⟩
  ·exact .inr ⟨h, h7⟩
 | succ m ih =>
  intro i hi k hk
  have h7 : law19_LexReads_l7 true := law19_LexReads_l7_go ⟨true, works_is, rfl⟩
  have next : ∀ k', k' ≤ ts.length → law19_LexReads_l3 acts ts 0 ((i + 1 : Nat) : Int) ts (k' : Int) ln (ts.drop k') ln true := fun k' hk' => ih (i + 1) (by omega) k' hk'
  refine law19_LexReads_l3_go ?_
  by_cases h : (i : Int) < (acts.length : Int)
  ·refine .inl ⟨h, .inl ⟨by omega, .inl ⟨rfl, law19_LexReads_l6_go ⟨by omega, h, _, _, rfl, _, done_is k, ?_⟩⟩⟩⟩
   by_cases hl : k < ts.length
   ·have hd : ¬ decide (ts.length ≤ k) = true := by simp; omega
    refine .inr ⟨hd, .inr ⟨by omega, _, lex_line k, _, ref_line k, .inl ⟨rfl, _, lex_is k _, .inl ⟨by omega, by omega, _, _, _, getD_tk hl, ?_⟩⟩⟩⟩
    have l9 := fun a b => reads_l9 hok hn (i := i) (by omega) next k hk a b
    unfold isAt pText
    rw [List.getElem?_eq_getElem hl]
    by_cases he : (ts[k]).2.1 = (acts.getD ((i : Int)).toNat (0, ByteArray.empty)).2
    ·exact .inl ⟨decide_eq_true he, .inl ⟨he, l9 _ _⟩⟩
    ·exact .inr ⟨by simp only [decide_eq_true_eq]; exact he, .inr ⟨he, l9 _ _⟩⟩
   ·have hd : decide (ts.length ≤ k) = true := by simp; omega
    refine .inl ⟨hd, .inl ⟨by omega, _, lex_line k, _, ref_line k, .inl ⟨rfl, _, lex_is k _, .inr ⟨by omega, .inr ⟨?_, reads_l9 hok hn (i := i) (by omega) next k hk _ _⟩⟩⟩⟩⟩
    unfold isAt
    rw [List.getElem?_eq_none (by omega)]; intro h; cases h
  ·exact .inr ⟨h, h7⟩
end
theorem law_LexReads (u : ByteArray) (acts : List T_law19_Act) : law19_LexReads_R u acts true := by
 obtain ⟨m, hm, m1, m2⟩ := mn_is u.size
 have hsz : (u.extract 0 (mn (u.size : Int) 400).toNat).size ≤ 400 := by
  rw [hm, Int.toNat_natCast, ByteArray.size_extract]; omega
 have hl : (u.extract 0 (mn (u.size : Int) 400).toNat).data.toList.length = (u.extract 0 (mn (u.size : Int) 400).toNat).size := Array.length_toList
 have hall := lexAll_is (u.extract 0 (mn (u.size : Int) 400).toNat) (by omega)
 have href := refAll_is (c := u.extract 0 (mn (u.size : Int) 400).toNat) (by omega)
 refine law19_LexReads_go ⟨by rw [hm]; omega, by rw [hm]; omega, ?_⟩
 cases e : (lexT (u.extract 0 (mn (u.size : Int) 400).toNat)).1 with
 | none =>
  have he : lexE (u.extract 0 (mn (u.size : Int) 400).toNat) = 21 := by unfold lexE; rw [e]; rfl
  rw [he, e] at hall href
  refine ⟨[], 0, _, _, lex_New_K_go fun cb => ⟨_, _, _, hall, .inr ⟨by decide, rfl, rfl⟩⟩, .inl ⟨by decide, _, _, _, href, .inl ⟨rfl, .inl ⟨rfl, .inr ⟨by decide, ?_⟩⟩⟩⟩⟩
  have h5 : law19_LexReads_l5 true := law19_LexReads_l5_go ⟨true, works_is, rfl⟩
  refine law19_LexReads_l0_go (law19_LexReads_l2_go ?_)
  by_cases h : (0 : Int) < (acts.length : Int)
  ·exact .inl ⟨h, .inl ⟨by decide, .inr ⟨by decide, h5⟩⟩⟩
  ·exact .inr ⟨h, h5⟩
 | some ts =>
  have he : lexE (u.extract 0 (mn (u.size : Int) 400).toNat) = 0 := by unfold lexE; rw [e]; rfl
  rw [he, e] at hall href
  have h1 := scan_ok _ _ _ _ ts e (fun t ht => by simp at ht)
  have h2 := scan_len _ _ _ _ ts e
  rw [hl] at h2
  refine ⟨ts, _, _, 0, lex_New_K_go fun cb => ⟨_, _, _, hall, .inl ⟨rfl, rfl, rfl, rfl, rfl⟩⟩, .inr ⟨rfl, _, _, _, href, .inl ⟨rfl, .inl ⟨rfl, .inl ⟨rfl, ?_⟩⟩⟩⟩⟩
  exact law19_LexReads_l1_go (reads_l3 h1 (by simp at h2; omega) _ 0 rfl 0 (Nat.zero_le _))
end Go.Proofs.YtlpbmajbalenjaaA
