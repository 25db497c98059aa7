/- Walks through the functions: what makes each relation true. -/
import Derived.Test.YtlpbmajbalenjaaW0
set_option linter.unusedVariables false
set_option maxRecDepth 100000
namespace Go.Proofs.YtlpbmajbalenjaaA
open Go Go.Proofs
theorem __lex_Reader__Figure_1_go {a : Int} {b : ByteArray} {c : Int} {z : Bool} (H : (z = (decide (a = 2)))) : __lex_Reader__Figure_1_R a b c z := by
 refine W.ii Try.func37 ?_
 exact W.adv 15 (W.fr (Ans.o (.bool (decide (a = 2))) (by rw [H])))
end Go.Proofs.YtlpbmajbalenjaaA
namespace Go.Proofs.YtlpbmajbalenjaaA
open Go Go.Proofs
theorem __lex_Reader__Done_v1_go {a : List T_lex_Token} {b : Int} {z : Bool} (H : (z = (decide ((a.length : Int) = 0)))) : __lex_Reader__Done_v1_R a b z := by
 refine W.ii Try.func18 ?_
 refine W.adv 19 (W.opS (O.ln a E_lex_Token) ?_)
 exact W.adv 7 (W.fr (Ans.o (.bool (decide ((a.length : Int) = 0))) (by rw [H])))
end Go.Proofs.YtlpbmajbalenjaaA
namespace Go.Proofs.YtlpbmajbalenjaaA
open Go Go.Proofs
theorem strings_IndexByte_go {b : ByteArray} {c z : Int} (H : ∃ a, internal_stringslite_IndexByte_R b c a ∧ (z = a)) : strings_IndexByte_R b c z := by
 refine W.ii Try.func44 ?_
 refine W.adv 9 ?_
 obtain ⟨a, e, H⟩ := H
 refine W.cl 48 [.str b, .int .u8 c] (.int .i64 a) e ?_
 exact W.adv 4 (W.fr (Ans.o (.int .i64 a) (by rw [H])))
end Go.Proofs.YtlpbmajbalenjaaA
namespace Go.Proofs.YtlpbmajbalenjaaA
open Go Go.Proofs
theorem name_Keyword_go {c : ByteArray} {z : Bool} (H : ∃ b, name_Keywords_R b ∧ ∃ a, slices_Contains___string_string__R b c a ∧ (z = a)) : name_Keyword_R c z := by
 refine W.ii Try.func29 ?_
 refine W.adv 7 ?_
 obtain ⟨b, e, H⟩ := H
 refine W.cl 10 [] (.list 1 (b.map E_string)) e ?_
 refine W.adv 1 ?_
 obtain ⟨a, f, H⟩ := H
 refine W.cl 39 [(.list 1 (b.map E_string)), .str c] (.bool a) f ?_
 exact W.adv 4 (W.fr (Ans.o (.bool a) (by rw [H])))
end Go.Proofs.YtlpbmajbalenjaaA
namespace Go.Proofs.YtlpbmajbalenjaaA
open Go Go.Proofs
theorem name_letter_go {a : Int} {z : Bool} (H : 97 ≤ a ∧ (z = (decide (a ≤ 122))) ∨ ¬ 97 ≤ a ∧ (z = false)) : name_letter_R a z := by
 refine W.ii Try.func40 ?_
 refine W.adv 10 ?_
 rcases H with ⟨c, H⟩ | ⟨c, H⟩
 ·refine W.gt (97 ≤ a) c ?_
  refine W.adv 1 (W.gt (97 ≤ a) c ?_)
  refine W.adv 1 (W.opS (O.pk (decide (97 ≤ a)) true (.bool (decide (a ≤ 122))) (.bool false) (decide_eq_true c)) ?_)
  exact W.adv 4 (W.fr (Ans.o (.bool (decide (a ≤ 122))) (by rw [H])))
 ·refine W.gf (97 ≤ a) c ?_
  refine W.gf (97 ≤ a) c ?_
  refine W.opS (O.pk (decide (97 ≤ a)) false (.tuple []) (.bool false) (decide_eq_false c)) ?_
  exact W.adv 4 (W.fr (Ans.o (.bool false) (by rw [H])))
end Go.Proofs.YtlpbmajbalenjaaA
namespace Go.Proofs.YtlpbmajbalenjaaA
open Go Go.Proofs
theorem __ref19_Reader__Line_v0_go {a : List T_ref19_Token} {b e z : Int} (H : (b < (a.length : Int) ∧ 0 ≤ b ∧ ∃ g k c, a.getD (b).toNat (0, ByteArray.empty, 0) = (g, k, c) ∧ (z = c)) ∨ ¬ b < (a.length : Int) ∧ (z = e)) : __ref19_Reader__Line_v0_R a b e z := by
 refine W.ii Try.func23 ?_
 refine W.adv 16 (W.opS (O.ln a E_ref19_Token) ?_)
 refine W.adv 3 ?_
 rcases H with ⟨f, H⟩ | ⟨f, H⟩
 ·refine W.ct (b < (a.length : Int)) f ?_
  refine W.adv 10 ?_
  obtain ⟨l, H⟩ := H
  obtain ⟨g, k, c, p, H⟩ := H
  refine W.opS (O.ixE E_ref19_Token 3 .i64 a b (0, ByteArray.empty, 0) (g, k, c) l f p) ?_
  exact W.adv 7 (W.fr (Ans.o (.int .i64 c) (by rw [H])))
 ·refine W.cf (b < (a.length : Int)) f ?_
  exact W.adv 12 (W.fr (Ans.o (.int .i64 e) (by rw [H])))
end Go.Proofs.YtlpbmajbalenjaaA
namespace Go.Proofs.YtlpbmajbalenjaaA
open Go Go.Proofs
theorem __lex_Reader__Line_v1_go {a : List T_lex_Token} {c z : Int} (H : (a.length : Int) = 0 ∧ (z = c) ∨ ¬ (a.length : Int) = 0 ∧ 0 < (a.length : Int) ∧ ∃ e f b, a.getD 0 (0, ByteArray.empty, 0) = (e, f, b) ∧ (z = b)) : __lex_Reader__Line_v1_R a c z := by
 refine W.ii Try.func19 ?_
 refine W.adv 21 (W.opS (O.ln a E_lex_Token) ?_)
 refine W.adv 4 ?_
 rcases H with ⟨g, H⟩ | ⟨g, H⟩
 ·refine W.ct ((a.length : Int) = 0) g ?_
  exact W.adv 12 (W.fr (Ans.o (.int .i64 c) (by rw [H])))
 ·refine W.cf ((a.length : Int) = 0) g ?_
  refine W.adv 9 ?_
  obtain ⟨k, H⟩ := H
  obtain ⟨e, f, b, l, H⟩ := H
  refine W.opS (O.ixE E_lex_Token 3 .i64 a 0 (0, ByteArray.empty, 0) (e, f, b) (by decide) k l) ?_
  exact W.adv 6 (W.fr (Ans.o (.int .i64 b) (by rw [H])))
end Go.Proofs.YtlpbmajbalenjaaA
namespace Go.Proofs.YtlpbmajbalenjaaA
open Go Go.Proofs
theorem __lex_Reader__Name_1_go {a : Int} {f : ByteArray} {i : Int} {z : Bool} (H : (a = 1 ∧ ∃ e, name_Name_R f e ∧ (z = e)) ∨ ¬ a = 1 ∧ (z = false)) : __lex_Reader__Name_1_R a f i z := by
 refine W.ii Try.func36 ?_
 refine W.adv 12 ?_
 rcases H with ⟨c, H⟩ | ⟨c, H⟩
 ·refine W.gt (a = 1) c ?_
  refine W.adv 1 (W.gt (a = 1) c ?_)
  refine W.adv 1 (W.gt (a = 1) c ?_)
  obtain ⟨e, k, H⟩ := H
  refine W.cl 28 [.str f] (.bool e) k ?_
  refine W.opS (O.pk (decide (a = 1)) true (.bool e) (.bool false) (decide_eq_true c)) ?_
  exact W.adv 4 (W.fr (Ans.o (.bool e) (by rw [H])))
 ·refine W.gf (a = 1) c ?_
  refine W.gf (a = 1) c ?_
  refine W.gf (a = 1) c ?_
  refine W.opS (O.pk (decide (a = 1)) false (.tuple []) (.bool false) (decide_eq_false c)) ?_
  exact W.adv 4 (W.fr (Ans.o (.bool false) (by rw [H])))
end Go.Proofs.YtlpbmajbalenjaaA
namespace Go.Proofs.YtlpbmajbalenjaaA
open Go Go.Proofs
theorem name_Keywords_go {z : List T_string} (H : (z = ([⟨#[110, 101, 116, 119, 111, 114, 107]⟩, ⟨#[110, 111, 100, 101]⟩, ⟨#[104, 111, 109, 101]⟩, ⟨#[108, 105, 110, 107]⟩, ⟨#[102, 97, 105, 108]⟩, ⟨#[114, 117, 108, 101]⟩, ⟨#[100, 114, 111, 112]⟩, ⟨#[118, 105, 97]⟩, ⟨#[101, 108, 115, 101]⟩, ⟨#[112, 114, 111, 98]⟩, ⟨#[104, 111, 112, 115]⟩, ⟨#[119, 105, 116, 104, 105, 110]⟩, ⟨#[99, 111, 109, 112, 97, 114, 101]⟩] : List T_string))) : name_Keywords_R z := by
 refine W.ii Try.func10 ?_
 exact W.adv 12 (W.fr (Ans.q (.list 1 (([⟨#[110, 101, 116, 119, 111, 114, 107]⟩, ⟨#[110, 111, 100, 101]⟩, ⟨#[104, 111, 109, 101]⟩, ⟨#[108, 105, 110, 107]⟩, ⟨#[102, 97, 105, 108]⟩, ⟨#[114, 117, 108, 101]⟩, ⟨#[100, 114, 111, 112]⟩, ⟨#[118, 105, 97]⟩, ⟨#[101, 108, 115, 101]⟩, ⟨#[112, 114, 111, 98]⟩, ⟨#[104, 111, 112, 115]⟩, ⟨#[119, 105, 116, 104, 105, 110]⟩, ⟨#[99, 111, 109, 112, 97, 114, 101]⟩] : List T_string).map E_string)) (by rw [H])))
end Go.Proofs.YtlpbmajbalenjaaA
namespace Go.Proofs.YtlpbmajbalenjaaA
open Go Go.Proofs
theorem ref17_Keywords_go {z : List T_string} (H : (z = ([⟨#[110, 101, 116, 119, 111, 114, 107]⟩, ⟨#[110, 111, 100, 101]⟩, ⟨#[104, 111, 109, 101]⟩, ⟨#[108, 105, 110, 107]⟩, ⟨#[102, 97, 105, 108]⟩, ⟨#[114, 117, 108, 101]⟩, ⟨#[100, 114, 111, 112]⟩, ⟨#[118, 105, 97]⟩, ⟨#[101, 108, 115, 101]⟩, ⟨#[112, 114, 111, 98]⟩, ⟨#[104, 111, 112, 115]⟩, ⟨#[119, 105, 116, 104, 105, 110]⟩, ⟨#[99, 111, 109, 112, 97, 114, 101]⟩] : List T_string))) : ref17_Keywords_R z := by
 refine W.ii Try.func11 ?_
 exact W.adv 12 (W.fr (Ans.q (.list 1 (([⟨#[110, 101, 116, 119, 111, 114, 107]⟩, ⟨#[110, 111, 100, 101]⟩, ⟨#[104, 111, 109, 101]⟩, ⟨#[108, 105, 110, 107]⟩, ⟨#[102, 97, 105, 108]⟩, ⟨#[114, 117, 108, 101]⟩, ⟨#[100, 114, 111, 112]⟩, ⟨#[118, 105, 97]⟩, ⟨#[101, 108, 115, 101]⟩, ⟨#[112, 114, 111, 98]⟩, ⟨#[104, 111, 112, 115]⟩, ⟨#[119, 105, 116, 104, 105, 110]⟩, ⟨#[99, 111, 109, 112, 97, 114, 101]⟩] : List T_string).map E_string)) (by rw [H])))
end Go.Proofs.YtlpbmajbalenjaaA
namespace Go.Proofs.YtlpbmajbalenjaaA
open Go Go.Proofs
theorem lex_pass_go {a : ByteArray} {z : Int} (H : 0 < (a.size : Int) ∧ (((letter a 0) = 35 ∧ ∃ c, strings_IndexByte_R a 10 c ∧ (0 ≤ c ∧ (z = c) ∨ ¬ 0 ≤ c ∧ (z = (a.size : Int)))) ∨ ¬ (letter a 0) = 35 ∧ (z = 1))) : lex_pass_R a z := by
 refine W.ii Try.func46 ?_
 refine W.adv 9 ?_
 obtain ⟨l, H⟩ := H
 refine W.opS (OpIs.ixT (k := .i64) (s := a) (i := 0) (by kernel_rfl) (by decide) l) ?_
 refine W.adv 3 ?_
 rcases H with ⟨e, H⟩ | ⟨e, H⟩
 ·refine W.cb false (!(decide ((letter a 0) = 35))) (congrArg (fun b => !b) (decide_eq_true e)) ?_
  refine W.adv 6 ?_
  obtain ⟨c, m, H⟩ := H
  refine W.cl 44 [.str a, .int .u8 10] (.int .i64 c) m ?_
  refine W.adv 9 ?_
  rcases H with ⟨f, H⟩ | ⟨f, H⟩
  ·refine W.ct (0 ≤ c) f ?_
   exact W.adv 8 (W.fr (Ans.o (.int .i64 c) (by rw [H])))
  ·refine W.cf (0 ≤ c) f ?_
   exact W.adv 10 (W.fr (Ans.o (.int .i64 (a.size : Int)) (by rw [H])))
 ·refine W.cb true (!(decide ((letter a 0) = 35))) (congrArg (fun b => !b) (decide_eq_false e)) ?_
  exact W.adv 7 (W.fr (Ans.o (.int .i64 1) (by rw [H])))
end Go.Proofs.YtlpbmajbalenjaaA
namespace Go.Proofs.YtlpbmajbalenjaaA
open Go Go.Proofs
theorem name_Name_go {e : ByteArray} {z : Bool} (H : ∃ a, name_Word_R e a ∧ ((a = true ∧ ∃ f, name_Keyword_R e f ∧ (z = (!f))) ∨ ¬ a = true ∧ (z = false))) : name_Name_R e z := by
 refine W.ii Try.func28 ?_
 refine W.adv 8 ?_
 obtain ⟨a, i, H⟩ := H
 refine W.cl 30 [.str e] (.bool a) i ?_
 refine W.adv 1 ?_
 rcases H with ⟨c, H⟩ | ⟨c, H⟩
 ·refine W.gb true (a == true) (congrArg (fun b => b == true) c) ?_
  refine W.adv 1 (W.gb true (a == true) (congrArg (fun b => b == true) c) ?_)
  obtain ⟨f, k, H⟩ := H
  refine W.cl 29 [.str e] (.bool f) k ?_
  refine W.gb true (a == true) (congrArg (fun b => b == true) c) ?_
  refine W.adv 1 (W.opS (O.pk a true (.bool (!f)) (.bool false) c) ?_)
  exact W.adv 4 (W.fr (Ans.o (.bool (!f)) (by rw [H])))
 ·refine W.gb false (a == true) (congrArg (fun b => b == true) (bfalse c)) ?_
  refine W.gb false (a == true) (congrArg (fun b => b == true) (bfalse c)) ?_
  refine W.gb false (a == true) (congrArg (fun b => b == true) (bfalse c)) ?_
  refine W.opS (O.pk a false (.tuple []) (.bool false) (bfalse c)) ?_
  exact W.adv 4 (W.fr (Ans.o (.bool false) (by rw [H])))
end Go.Proofs.YtlpbmajbalenjaaA
namespace Go.Proofs.YtlpbmajbalenjaaA
open Go Go.Proofs
theorem __lex_Reader__Name_M_go {a : List T_lex_Token} {c : Int} {f : ByteArray} {i : Bool} {p_0 : List T_lex_Token} {p_1 : Int} (H : ∃ d e p2_0 p2_1, __lex_Reader__take_M_R a c d e p2_0 p2_1 ∧ f = d ∧ i = e ∧ p_0 = p2_0 ∧ p_1 = p2_1) : __lex_Reader__Name_M_R a c f i p_0 p_1 := by
 refine W.mt (T := 61) (zs := [.pref 0 1 0 0]) Try.func16 (by kernel_rfl) (by kernel_rfl) (by kernel_rfl) (by kernel_rfl) (by kernel_rfl) (by kernel_rfl) ?_
 refine W.adv 9 ?_
 obtain ⟨d, e, p2_0, p2_1, k, H⟩ := H
 refine W.meth (dst := some 5) (g := 35) (b := 0) (v := 1) (n := 2) (cs := [(.list 3 (a.map E_lex_Token)), .int .i64 c]) (cin := [(.list 3 (a.map E_lex_Token)), .int .i64 c]) (rest := [.fn 36 [] []]) (args := [.fn 36 [] []]) (by kernel_rfl) (by kernel_rfl) (by kernel_rfl) (by kernel_rfl) (by kernel_rfl) (by kernel_rfl) rfl k ?_
 exact W.adv 7 (W.fr (MAns.two (d0 := (.tuple [.str d, .bool e])) (c0 := [(.list 3 (p2_0.map E_lex_Token)), .int .i64 p2_1]) (mc := [(.list 3 (p2_0.map E_lex_Token)), .int .i64 p2_1]) (by kernel_rfl) (by rw [H.1, H.2.1]) (by kernel_rfl) (by kernel_rfl) (by kernel_rfl) (by rw [H.2.2.1, H.2.2.2])))
end Go.Proofs.YtlpbmajbalenjaaA
namespace Go.Proofs.YtlpbmajbalenjaaA
open Go Go.Proofs
theorem __lex_Reader__Figure_M_go {a : List T_lex_Token} {c : Int} {f : ByteArray} {i : Bool} {p_0 : List T_lex_Token} {p_1 : Int} (H : ∃ d e p2_0 p2_1, __lex_Reader__take_M1_R a c d e p2_0 p2_1 ∧ f = d ∧ i = e ∧ p_0 = p2_0 ∧ p_1 = p2_1) : __lex_Reader__Figure_M_R a c f i p_0 p_1 := by
 refine W.mt (T := 61) (zs := [.pref 0 1 0 0]) Try.func17 (by kernel_rfl) (by kernel_rfl) (by kernel_rfl) (by kernel_rfl) (by kernel_rfl) (by kernel_rfl) ?_
 refine W.adv 9 ?_
 obtain ⟨d, e, p2_0, p2_1, k, H⟩ := H
 refine W.meth (dst := some 5) (g := 35) (b := 0) (v := 1) (n := 2) (cs := [(.list 3 (a.map E_lex_Token)), .int .i64 c]) (cin := [(.list 3 (a.map E_lex_Token)), .int .i64 c]) (rest := [.fn 37 [] []]) (args := [.fn 37 [] []]) (by kernel_rfl) (by kernel_rfl) (by kernel_rfl) (by kernel_rfl) (by kernel_rfl) (by kernel_rfl) rfl k ?_
 exact W.adv 7 (W.fr (MAns.two (d0 := (.tuple [.str d, .bool e])) (c0 := [(.list 3 (p2_0.map E_lex_Token)), .int .i64 p2_1]) (mc := [(.list 3 (p2_0.map E_lex_Token)), .int .i64 p2_1]) (by kernel_rfl) (by rw [H.1, H.2.1]) (by kernel_rfl) (by kernel_rfl) (by kernel_rfl) (by rw [H.2.2.1, H.2.2.2])))
end Go.Proofs.YtlpbmajbalenjaaA
namespace Go.Proofs.YtlpbmajbalenjaaA
open Go Go.Proofs
theorem __lex_Reader__Take_M_go {a : List T_lex_Token} {c : Int} {d : ByteArray} {z : Bool} {p_0 : List T_lex_Token} {p_1 : Int} (H : ∃ b, __lex_Reader__Is_v1_R a c d b ∧ (b = true ∧ 1 ≤ (a.length : Int) ∧ z = b ∧ p_0 = (a.drop 1) ∧ p_1 = c ∨ ¬ b = true ∧ z = b ∧ p_0 = a ∧ p_1 = c)) : __lex_Reader__Take_M_R a c d z p_0 p_1 := by
 refine W.mt (T := 61) (zs := [.pref 0 1 0 0, .str d]) Try.func21 (by kernel_rfl) (by kernel_rfl) (by kernel_rfl) (by kernel_rfl) (by kernel_rfl) (by kernel_rfl) ?_
 refine W.adv 9 ?_
 obtain ⟨b, f, H⟩ := H
 refine W.callR (g := 20) (ds := [.pref 0 1 0 0, .str d]) (es := [(.ptr [(.list 3 (a.map E_lex_Token)), .int .i64 c]), .str d]) (r := (.bool b)) (by kernel_rfl) (rf_cons (by kernel_rfl) (rf_cons (by kernel_rfl) rf_nil)) (Ic.args f (by kernel_rfl)) (by kernel_rfl) ?_
 refine W.adv 9 ?_
 rcases H with ⟨e, H⟩ | ⟨e, H⟩
 ·refine W.cb true b e ?_
  refine W.adv 6 ?_
  obtain ⟨k, H⟩ := H
  refine W.opS (OpIs.slE_lo (enc := E_lex_Token) (n := 3) (k' := .i64) (L := a) (i := 1) (by kernel_rfl) (by decide) k) ?_
  exact W.adv 12 (W.fr (MAns.two (d0 := (.bool b)) (c0 := [(.list 3 ((a.drop 1).map E_lex_Token)), .int .i64 c]) (mc := [(.list 3 ((a.drop 1).map E_lex_Token)), .int .i64 c]) (by kernel_rfl) (by rw [H.1]) (by kernel_rfl) (by kernel_rfl) (by kernel_rfl) (by rw [H.2.1, H.2.2])))
 ·refine W.cb false b (bfalse e) ?_
  exact W.adv 9 (W.fr (MAns.two (d0 := (.bool b)) (c0 := [(.list 3 (a.map E_lex_Token)), .int .i64 c]) (mc := [(.list 3 (a.map E_lex_Token)), .int .i64 c]) (by kernel_rfl) (by rw [H.1]) (by kernel_rfl) (by kernel_rfl) (by kernel_rfl) (by rw [H.2.1, H.2.2])))
end Go.Proofs.YtlpbmajbalenjaaA
namespace Go.Proofs.YtlpbmajbalenjaaA
open Go Go.Proofs
section
variable (c : ByteArray) (a : List T_string) (b : Int) (k : ByteArray) (z : Bool)
noncomputable def ref17_Keyword_l0_s (j : Nat → D) (jb : Nat → Blk) (vs : Nat → Nat) : Cf := cfAt Try.f38 [1, 1, 0, 1, 0] ⟨([.str c, j 1, j 2, (.list 1 (a.map E_string)), .int .i64 b] ++ J j 5 13), (J jb 0 18)⟩
def ref17_Keyword_l0 : Prop := ∀ j jb vs, W C F 38 0 (ref17_Keyword_l0_s c a b  j jb vs) (Ans C Try.f38 (.bool z))
variable {c a b k z}
theorem ref17_Keyword_l0_go (H : b < (a.length : Int) ∧ 0 ≤ b ∧ ((a.getD (b).toNat ByteArray.empty) = c ∧ (z = true) ∨ ¬ (a.getD (b).toNat ByteArray.empty) = c ∧ ref17_Keyword_l0 c a (wi (b + 1)) z) ∨ ¬ b < (a.length : Int) ∧ (z = false)) : ref17_Keyword_l0 c a b z := by
 intro j jb vs
 refine W.adv 1 (W.adv 5 ?_)
 refine W.opS (O.ln a E_string) ?_
 refine W.adv 3 ?_
 rcases H with ⟨f, H⟩ | ⟨f, H⟩
 ·refine W.ct (b < (a.length : Int)) f ?_
  refine W.adv 8 ?_
  obtain ⟨p, H⟩ := H
  refine W.opS (O.ixE E_string 1 .i64 a b ByteArray.empty (a.getD (b).toNat ByteArray.empty) p f rfl) ?_
  refine W.adv 5 ?_
  rcases H with ⟨l, H⟩ | ⟨l, H⟩
  ·refine W.ct ((a.getD (b).toNat ByteArray.empty) = c) l ?_
   exact W.adv 11 (W.fr (Ans.o (.bool true) (by rw [H])))
  ·refine W.cf ((a.getD (b).toNat ByteArray.empty) = c) l ?_
   exact W.adv 9 (W.tl H)
 ·refine W.cf (b < (a.length : Int)) f ?_
  exact W.adv 11 (W.fr (Ans.o (.bool false) (by rw [H])))
theorem ref17_Keyword_go (H : ∃ e, ref17_Keywords_R e ∧ ref17_Keyword_l0 k e 0 z) : ref17_Keyword_R k z := by
 refine W.ii Try.func38 ?_
 refine W.adv 7 ?_
 obtain ⟨e, q, H⟩ := H
 refine W.cl 11 [] (.list 1 (e.map E_string)) q ?_
 exact W.adv 10 (W.tl H)
end
end Go.Proofs.YtlpbmajbalenjaaA
namespace Go.Proofs.YtlpbmajbalenjaaA
open Go Go.Proofs
section
variable (c f : ByteArray) (a : Int) (m n : ByteArray) (z : Int)
noncomputable def lex_length_l0_s (j : Nat → D) (jb : Nat → Blk) (vs : Nat → Nat) : Cf := cfAt Try.f45 [1, 1, 0, 0] ⟨([.str c, .str f, j 2, j 3, j 4, .int .i64 a] ++ J j 6 15), (J jb 0 21)⟩
def lex_length_l0 : Prop := ∀ j jb vs, W C F 45 0 (lex_length_l0_s c f a  j jb vs) (Ans C Try.f45 (.int .i64 z))
variable {c f a m n z}
theorem lex_length_l0_go (H : (a < (c.size : Int) ∧ 0 ≤ a ∧ ∃ l, strings_IndexByte_R f (letter c a) l ∧ (0 ≤ l ∧ lex_length_l0 c f (wi (a + 1)) z ∨ ¬ 0 ≤ l ∧ (z = a))) ∨ ¬ a < (c.size : Int) ∧ (z = a)) : lex_length_l0 c f a z := by
 intro j jb vs
 refine W.adv 1 (W.adv 8 ?_)
 rcases H with ⟨e, H⟩ | ⟨e, H⟩
 ·refine W.gt (a < (c.size : Int)) e ?_
  refine W.adv 1 (W.gt (a < (c.size : Int)) e ?_)
  refine W.adv 1 (W.gt (a < (c.size : Int)) e ?_)
  refine W.adv 1 (W.gt (a < (c.size : Int)) e ?_)
  obtain ⟨q, H⟩ := H
  refine W.opS (OpIs.ixT (k := .i64) (s := c) (i := a) (by kernel_rfl) q e) ?_
  refine W.gt (a < (c.size : Int)) e ?_
  obtain ⟨l, u, H⟩ := H
  refine W.cl 44 [.str f, (.int .u8 (letter c a))] (.int .i64 l) u ?_
  refine W.gt (a < (c.size : Int)) e ?_
  refine W.adv 1 (W.opS (O.pk (decide (a < (c.size : Int))) true (.bool (decide (0 ≤ l))) (.bool false) (decide_eq_true e)) ?_)
  refine W.adv 2 ?_
  rcases H with ⟨p, H⟩ | ⟨p, H⟩
  ·refine W.ct (0 ≤ l) p ?_
   exact W.adv 10 (W.tl H)
  ·refine W.cf (0 ≤ l) p ?_
   exact W.adv 12 (W.fr (Ans.o (.int .i64 a) (by rw [H])))
 ·refine W.gf (a < (c.size : Int)) e ?_
  refine W.gf (a < (c.size : Int)) e ?_
  refine W.gf (a < (c.size : Int)) e ?_
  refine W.gf (a < (c.size : Int)) e ?_
  refine W.gf (a < (c.size : Int)) e ?_
  refine W.gf (a < (c.size : Int)) e ?_
  refine W.opS (O.pk (decide (a < (c.size : Int))) false (.tuple []) (.bool false) (decide_eq_false e)) ?_
  exact W.adv 15 (W.fr (Ans.o (.int .i64 a) (by rw [H])))
theorem lex_length_go (H : lex_length_l0 m n 1 z) : lex_length_R m n z := by
 refine W.ii Try.func45 ?_
 exact W.adv 12 (W.tl H)
end
end Go.Proofs.YtlpbmajbalenjaaA
namespace Go.Proofs.YtlpbmajbalenjaaA
open Go Go.Proofs
theorem name_other_go {a : Int} {z : Bool} (H : 48 ≤ a ∧ (a ≤ 57 ∧ (z = true) ∨ ¬ a ≤ 57 ∧ (a = 45 ∧ (z = true) ∨ ¬ a = 45 ∧ (z = (decide (a = 95))))) ∨ ¬ 48 ≤ a ∧ (a = 45 ∧ (z = true) ∨ ¬ a = 45 ∧ (z = (decide (a = 95))))) : name_other_R a z := by
 refine W.ii Try.func41 ?_
 refine W.adv 10 ?_
 rcases H with ⟨c, H⟩ | ⟨c, H⟩
 ·refine W.gt (48 ≤ a) c ?_
  refine W.adv 1 (W.gt (48 ≤ a) c ?_)
  refine W.adv 1 (W.opS (O.pk (decide (48 ≤ a)) true (.bool (decide (a ≤ 57))) (.bool false) (decide_eq_true c)) ?_)
  refine W.adv 1 ?_
  rcases H with ⟨e, H⟩ | ⟨e, H⟩
  ·refine W.gt' (a ≤ 57) e ?_
   refine W.gt' (a ≤ 57) e ?_
   refine W.opS (O.pk (decide (a ≤ 57)) true (.bool true) (.tuple []) (decide_eq_true e)) ?_
   exact W.adv 8 (W.fr (Ans.o (.bool true) (by rw [H])))
  ·refine W.gf' (a ≤ 57) e ?_
   refine W.adv 1 (W.gf' (a ≤ 57) e ?_)
   refine W.adv 1 (W.opS (O.pk (decide (a ≤ 57)) false (.bool true) (.bool (decide (a = 45))) (decide_eq_false e)) ?_)
   refine W.adv 1 ?_
   rcases H with ⟨f, H⟩ | ⟨f, H⟩
   ·refine W.gt' (a = 45) f ?_
    refine W.gt' (a = 45) f ?_
    refine W.opS (O.pk (decide (a = 45)) true (.bool true) (.tuple []) (decide_eq_true f)) ?_
    exact W.adv 4 (W.fr (Ans.o (.bool true) (by rw [H])))
   ·refine W.gf' (a = 45) f ?_
    refine W.adv 1 (W.gf' (a = 45) f ?_)
    refine W.adv 1 (W.opS (O.pk (decide (a = 45)) false (.bool true) (.bool (decide (a = 95))) (decide_eq_false f)) ?_)
    exact W.adv 4 (W.fr (Ans.o (.bool (decide (a = 95))) (by rw [H])))
 ·refine W.gf (48 ≤ a) c ?_
  refine W.gf (48 ≤ a) c ?_
  refine W.opS (O.pk (decide (48 ≤ a)) false (.tuple []) (.bool false) (decide_eq_false c)) ?_
  refine W.adv 7 ?_
  rcases H with ⟨g, H⟩ | ⟨g, H⟩
  ·refine W.gt' (a = 45) g ?_
   refine W.gt' (a = 45) g ?_
   refine W.opS (O.pk (decide (a = 45)) true (.bool true) (.tuple []) (decide_eq_true g)) ?_
   exact W.adv 4 (W.fr (Ans.o (.bool true) (by rw [H])))
  ·refine W.gf' (a = 45) g ?_
   refine W.adv 1 (W.gf' (a = 45) g ?_)
   refine W.adv 1 (W.opS (O.pk (decide (a = 45)) false (.bool true) (.bool (decide (a = 95))) (decide_eq_false g)) ?_)
   exact W.adv 4 (W.fr (Ans.o (.bool (decide (a = 95))) (by rw [H])))
end Go.Proofs.YtlpbmajbalenjaaA
namespace Go.Proofs.YtlpbmajbalenjaaA
open Go Go.Proofs
theorem ref19_mark_go {a : Int} {z : Bool} (H : a = 123 ∧ (z = true) ∨ ¬ a = 123 ∧ (a = 125 ∧ (z = true) ∨ ¬ a = 125 ∧ (a = 59 ∧ (z = true) ∨ ¬ a = 59 ∧ (a = 44 ∧ (z = true) ∨ ¬ a = 44 ∧ (z = (decide (a = 42))))))) : ref19_mark_R a z := by
 refine W.ii Try.func32 ?_
 refine W.adv 10 ?_
 rcases H with ⟨c, H⟩ | ⟨c, H⟩
 ·refine W.gt' (a = 123) c ?_
  refine W.gt' (a = 123) c ?_
  refine W.opS (O.pk (decide (a = 123)) true (.bool true) (.tuple []) (decide_eq_true c)) ?_
  exact W.adv 16 (W.fr (Ans.o (.bool true) (by rw [H])))
 ·refine W.gf' (a = 123) c ?_
  refine W.adv 1 (W.gf' (a = 123) c ?_)
  refine W.adv 1 (W.opS (O.pk (decide (a = 123)) false (.bool true) (.bool (decide (a = 125))) (decide_eq_false c)) ?_)
  refine W.adv 1 ?_
  rcases H with ⟨e, H⟩ | ⟨e, H⟩
  ·refine W.gt' (a = 125) e ?_
   refine W.gt' (a = 125) e ?_
   refine W.opS (O.pk (decide (a = 125)) true (.bool true) (.tuple []) (decide_eq_true e)) ?_
   exact W.adv 12 (W.fr (Ans.o (.bool true) (by rw [H])))
  ·refine W.gf' (a = 125) e ?_
   refine W.adv 1 (W.gf' (a = 125) e ?_)
   refine W.adv 1 (W.opS (O.pk (decide (a = 125)) false (.bool true) (.bool (decide (a = 59))) (decide_eq_false e)) ?_)
   refine W.adv 1 ?_
   rcases H with ⟨f, H⟩ | ⟨f, H⟩
   ·refine W.gt' (a = 59) f ?_
    refine W.gt' (a = 59) f ?_
    refine W.opS (O.pk (decide (a = 59)) true (.bool true) (.tuple []) (decide_eq_true f)) ?_
    exact W.adv 8 (W.fr (Ans.o (.bool true) (by rw [H])))
   ·refine W.gf' (a = 59) f ?_
    refine W.adv 1 (W.gf' (a = 59) f ?_)
    refine W.adv 1 (W.opS (O.pk (decide (a = 59)) false (.bool true) (.bool (decide (a = 44))) (decide_eq_false f)) ?_)
    refine W.adv 1 ?_
    rcases H with ⟨g, H⟩ | ⟨g, H⟩
    ·refine W.gt' (a = 44) g ?_
     refine W.gt' (a = 44) g ?_
     refine W.opS (O.pk (decide (a = 44)) true (.bool true) (.tuple []) (decide_eq_true g)) ?_
     exact W.adv 4 (W.fr (Ans.o (.bool true) (by rw [H])))
    ·refine W.gf' (a = 44) g ?_
     refine W.adv 1 (W.gf' (a = 44) g ?_)
     refine W.adv 1 (W.opS (O.pk (decide (a = 44)) false (.bool true) (.bool (decide (a = 42))) (decide_eq_false g)) ?_)
     exact W.adv 4 (W.fr (Ans.o (.bool (decide (a = 42))) (by rw [H])))
end Go.Proofs.YtlpbmajbalenjaaA
namespace Go.Proofs.YtlpbmajbalenjaaA
open Go Go.Proofs
theorem triviumbase_Among_go {b a z : Int} (H : a < 1 ∧ (z = 0) ∨ ¬ a < 1 ∧ (wu (a)) ≠ 0 ∧ (z = (wi (((wu (b)).tmod (wu (a))))))) : triviumbase_Among_R b a z := by
 refine W.ii Try.func24 ?_
 refine W.adv 12 ?_
 rcases H with ⟨c, H⟩ | ⟨c, H⟩
 ·refine W.ct (a < 1) c ?_
  exact W.adv 7 (W.fr (Ans.o (.int .i64 0) (by rw [H])))
 ·refine W.cf (a < 1) c ?_
  refine W.adv 8 ?_
  obtain ⟨e, H⟩ := H
  refine W.opS (OpIs.bn (op := .rem) (x := (.int .u64 (wu (b)))) (y := (.int .u64 (wu (a)))) (by kernel_rfl) (remD e)) ?_
  exact W.adv 5 (W.fr (Ans.o (.int .i64 (wi (((wu (b)).tmod (wu (a)))))) (by rw [H])))
theorem slices_Contains___string_string__go {b : List T_string} {c : ByteArray} {z : Bool} (H : ∃ a, slices_Index___string_string__R b c a ∧ (z = (decide (0 ≤ a)))) : slices_Contains___string_string__R b c z := by
 refine W.ii Try.func39 ?_
 refine W.adv 9 ?_
 obtain ⟨a, e, H⟩ := H
 refine W.cl 47 [(.list 1 (b.map E_string)), .str c] (.int .i64 a) e ?_
 exact W.adv 5 (W.fr (Ans.o (.bool (decide (0 ≤ a))) (by rw [H])))
section
variable (b : List T_string) (c : ByteArray) (e a : Int) (f : List T_string) (g : ByteArray) (z : Int)
noncomputable def slices_Index___string_string__l0_s (j : Nat → D) (jb : Nat → Blk) (vs : Nat → Nat) : Cf := cfAt Try.f47 [1, 0, 1, 0] ⟨([(.list 1 (b.map E_string)), .str c] ++ (J j 2 5 ++ ([.int .i64 e, .int .i64 a] ++ J j 9 10))), (J jb 0 19)⟩
def slices_Index___string_string__l0 : Prop := ∀ j jb vs, W C F 47 0 (slices_Index___string_string__l0_s b c e a  j jb vs) (Ans C Try.f47 (.int .i64 z))
variable {b c e a f g z}
theorem slices_Index___string_string__l0_go (H : a < e ∧ 0 ≤ a ∧ a < (b.length : Int) ∧ (c = (b.getD (a).toNat ByteArray.empty) ∧ (z = a) ∨ ¬ c = (b.getD (a).toNat ByteArray.empty) ∧ slices_Index___string_string__l0 b c e (wi (a + 1)) z) ∨ ¬ a < e ∧ (z = (-1))) : slices_Index___string_string__l0 b c e a z := by
 intro j jb vs
 refine W.adv 1 (W.adv 6 ?_)
 rcases H with ⟨k, H⟩ | ⟨k, H⟩
 ·refine W.ct (a < e) k ?_
  refine W.adv 15 ?_
  obtain ⟨p, q, H⟩ := H
  refine W.opS (O.ixE E_string 1 .i64 b a ByteArray.empty (b.getD (a).toNat ByteArray.empty) p q rfl) ?_
  refine W.adv 4 ?_
  rcases H with ⟨l, H⟩ | ⟨l, H⟩
  ·refine W.ct (c = (b.getD (a).toNat ByteArray.empty)) l ?_
   exact W.adv 12 (W.fr (Ans.o (.int .i64 a) (by rw [H])))
  ·refine W.cf (c = (b.getD (a).toNat ByteArray.empty)) l ?_
   exact W.adv 8 (W.tl H)
 ·refine W.cf (a < e) k ?_
  exact W.adv 11 (W.fr (Ans.o (.int .i64 (-1)) (by rw [H])))
theorem slices_Index___string_string__go (H : slices_Index___string_string__l0 f g (f.length : Int) 0 z) : slices_Index___string_string__R f g z := by
 refine W.ii Try.func47 ?_
 refine W.adv 9 (W.opS (O.ln f E_string) ?_)
 exact W.adv 4 (W.tl H)
end
end Go.Proofs.YtlpbmajbalenjaaA
namespace Go.Proofs.YtlpbmajbalenjaaA
open Go Go.Proofs
theorem __lex_Reader__Is_v1_go {e : List T_lex_Token} {l : Int} {k : ByteArray} {z : Bool} (H : ∃ a, __lex_Reader__Done_v1_R e l a ∧ (a = true ∧ (z = false) ∨ ¬ a = true ∧ 0 < (e.length : Int) ∧ ∃ m f p, e.getD 0 (0, ByteArray.empty, 0) = (m, f, p) ∧ (z = (decide (f = k))))) : __lex_Reader__Is_v1_R e l k z := by
 refine W.ii Try.func20 ?_
 refine W.adv 8 ?_
 obtain ⟨a, q, H⟩ := H
 refine W.cl 18 [(.ptr [(.list 3 (e.map E_lex_Token)), .int .i64 l])] (.bool a) q ?_
 refine W.adv 2 ?_
 rcases H with ⟨c, H⟩ | ⟨c, H⟩
 ·refine W.gb false ((!a) == true) (congrArg (fun b => b == true) (congrArg (fun b => !b) c)) ?_
  refine W.gb false ((!a) == true) (congrArg (fun b => b == true) (congrArg (fun b => !b) c)) ?_
  refine W.gb false ((!a) == true) (congrArg (fun b => b == true) (congrArg (fun b => !b) c)) ?_
  refine W.gb false ((!a) == true) (congrArg (fun b => b == true) (congrArg (fun b => !b) c)) ?_
  refine W.gb false ((!a) == true) (congrArg (fun b => b == true) (congrArg (fun b => !b) c)) ?_
  refine W.gb false ((!a) == true) (congrArg (fun b => b == true) (congrArg (fun b => !b) c)) ?_
  refine W.gb false ((!a) == true) (congrArg (fun b => b == true) (congrArg (fun b => !b) c)) ?_
  refine W.gb false ((!a) == true) (congrArg (fun b => b == true) (congrArg (fun b => !b) c)) ?_
  refine W.gb false ((!a) == true) (congrArg (fun b => b == true) (congrArg (fun b => !b) c)) ?_
  refine W.opS (O.pk (!a) false (.tuple []) (.bool false) (congrArg (fun b => !b) c)) ?_
  exact W.adv 4 (W.fr (Ans.o (.bool false) (by rw [H])))
 ·refine W.gb true ((!a) == true) (congrArg (fun b => b == true) (congrArg (fun b => !b) (bfalse c))) ?_
  refine W.adv 1 (W.gb true ((!a) == true) (congrArg (fun b => b == true) (congrArg (fun b => !b) (bfalse c))) ?_)
  refine W.adv 1 (W.gb true ((!a) == true) (congrArg (fun b => b == true) (congrArg (fun b => !b) (bfalse c))) ?_)
  refine W.adv 1 (W.gb true ((!a) == true) (congrArg (fun b => b == true) (congrArg (fun b => !b) (bfalse c))) ?_)
  refine W.adv 1 (W.gb true ((!a) == true) (congrArg (fun b => b == true) (congrArg (fun b => !b) (bfalse c))) ?_)
  obtain ⟨s, H⟩ := H
  obtain ⟨m, f, p, u, H⟩ := H
  refine W.opS (O.ixE E_lex_Token 3 .i64 e 0 (0, ByteArray.empty, 0) (m, f, p) (by decide) s u) ?_
  refine W.gb true ((!a) == true) (congrArg (fun b => b == true) (congrArg (fun b => !b) (bfalse c))) ?_
  refine W.adv 1 (W.gb true ((!a) == true) (congrArg (fun b => b == true) (congrArg (fun b => !b) (bfalse c))) ?_)
  refine W.adv 1 (W.gb true ((!a) == true) (congrArg (fun b => b == true) (congrArg (fun b => !b) (bfalse c))) ?_)
  refine W.adv 1 (W.gb true ((!a) == true) (congrArg (fun b => b == true) (congrArg (fun b => !b) (bfalse c))) ?_)
  refine W.adv 1 (W.opS (O.pk (!a) true (.bool (decide (f = k))) (.bool false) (congrArg (fun b => !b) (bfalse c))) ?_)
  exact W.adv 4 (W.fr (Ans.o (.bool (decide (f = k))) (by rw [H])))
end Go.Proofs.YtlpbmajbalenjaaA
namespace Go.Proofs.YtlpbmajbalenjaaA
open Go Go.Proofs
theorem lex_kind_go {a c : Int} {e : ByteArray} (H : ∃ f, strings_IndexByte_R (⟨#[97, 98, 99, 100, 101, 102, 103, 104, 105, 106, 107, 108, 109, 110, 111, 112, 113, 114, 115, 116, 117, 118, 119, 120, 121, 122]⟩) a f ∧ (0 ≤ f ∧ c = 1 ∧ e = ⟨#[97, 98, 99, 100, 101, 102, 103, 104, 105, 106, 107, 108, 109, 110, 111, 112, 113, 114, 115, 116, 117, 118, 119, 120, 121, 122, 48, 49, 50, 51, 52, 53, 54, 55, 56, 57, 45, 95]⟩ ∨ ¬ 0 ≤ f ∧ (48 ≤ a ∧ (a ≤ 57 ∧ c = 2 ∧ e = ⟨#[48, 49, 50, 51, 52, 53, 54, 55, 56, 57, 46, 47, 37]⟩ ∨ ¬ a ≤ 57 ∧ ∃ i, strings_IndexByte_R (⟨#[123, 125, 59, 44, 42]⟩) a i ∧ (0 ≤ i ∧ c = 3 ∧ e = ⟨#[]⟩ ∨ ¬ 0 ≤ i ∧ c = 0 ∧ e = ⟨#[]⟩)) ∨ ¬ 48 ≤ a ∧ ∃ k, strings_IndexByte_R (⟨#[123, 125, 59, 44, 42]⟩) a k ∧ (0 ≤ k ∧ c = 3 ∧ e = ⟨#[]⟩ ∨ ¬ 0 ≤ k ∧ c = 0 ∧ e = ⟨#[]⟩)))) : lex_kind_R a c e := by
 refine W.ii Try.func43 ?_
 refine W.adv 11 ?_
 obtain ⟨f, s, H⟩ := H
 refine W.cl 44 [.str ⟨#[97, 98, 99, 100, 101, 102, 103, 104, 105, 106, 107, 108, 109, 110, 111, 112, 113, 114, 115, 116, 117, 118, 119, 120, 121, 122]⟩, .int .u8 a] (.int .i64 f) s ?_
 refine W.adv 4 ?_
 rcases H with ⟨m, H⟩ | ⟨m, H⟩
 ·refine W.ct (0 ≤ f) m ?_
  exact W.adv 9 (W.fr (Ans.o (.tuple [.int .i64 1, .str ⟨#[97, 98, 99, 100, 101, 102, 103, 104, 105, 106, 107, 108, 109, 110, 111, 112, 113, 114, 115, 116, 117, 118, 119, 120, 121, 122, 48, 49, 50, 51, 52, 53, 54, 55, 56, 57, 45, 95]⟩]) (by rw [H.1, H.2])))
 ·refine W.cf (0 ≤ f) m ?_
  refine W.adv 5 ?_
  rcases H with ⟨l, H⟩ | ⟨l, H⟩
  ·refine W.gt (48 ≤ a) l ?_
   refine W.adv 1 (W.gt (48 ≤ a) l ?_)
   refine W.adv 1 (W.opS (O.pk (decide (48 ≤ a)) true (.bool (decide (a ≤ 57))) (.bool false) (decide_eq_true l)) ?_)
   refine W.adv 3 ?_
   rcases H with ⟨n, H⟩ | ⟨n, H⟩
   ·refine W.ct (a ≤ 57) n ?_
    exact W.adv 9 (W.fr (Ans.o (.tuple [.int .i64 2, .str ⟨#[48, 49, 50, 51, 52, 53, 54, 55, 56, 57, 46, 47, 37]⟩]) (by rw [H.1, H.2])))
   ·refine W.cf (a ≤ 57) n ?_
    refine W.adv 3 ?_
    obtain ⟨i, u, H⟩ := H
    refine W.cl 44 [.str ⟨#[123, 125, 59, 44, 42]⟩, .int .u8 a] (.int .i64 i) u ?_
    refine W.adv 4 ?_
    rcases H with ⟨p, H⟩ | ⟨p, H⟩
    ·refine W.ct (0 ≤ i) p ?_
     exact W.adv 9 (W.fr (Ans.o (.tuple [.int .i64 3, .str ⟨#[]⟩]) (by rw [H.1, H.2])))
    ·refine W.cf (0 ≤ i) p ?_
     exact W.adv 10 (W.fr (Ans.o (.tuple [.int .i64 0, .str ⟨#[]⟩]) (by rw [H.1, H.2])))
  ·refine W.gf (48 ≤ a) l ?_
   refine W.gf (48 ≤ a) l ?_
   refine W.opS (O.pk (decide (48 ≤ a)) false (.tuple []) (.bool false) (decide_eq_false l)) ?_
   refine W.adv 7 ?_
   obtain ⟨k, v, H⟩ := H
   refine W.cl 44 [.str ⟨#[123, 125, 59, 44, 42]⟩, .int .u8 a] (.int .i64 k) v ?_
   refine W.adv 4 ?_
   rcases H with ⟨q, H⟩ | ⟨q, H⟩
   ·refine W.ct (0 ≤ k) q ?_
    exact W.adv 9 (W.fr (Ans.o (.tuple [.int .i64 3, .str ⟨#[]⟩]) (by rw [H.1, H.2])))
   ·refine W.cf (0 ≤ k) q ?_
    exact W.adv 10 (W.fr (Ans.o (.tuple [.int .i64 0, .str ⟨#[]⟩]) (by rw [H.1, H.2])))
end Go.Proofs.YtlpbmajbalenjaaA
namespace Go.Proofs.YtlpbmajbalenjaaA
open Go Go.Proofs
theorem lex_New_K_go {f : ByteArray} {zo_0 : List T_lex_Token} {zo_1 zrt0 zrt1 : Int} (H : ∀ cb : Nat → Blk, (∃ d : List T_lex_Token, (∃ a : Int, (∃ c : Int, (lex_All_R f d a c ∧ ((c = 0 ∧ (zo_0 = d ∧ zo_1 = a ∧ zrt0 = a ∧ zrt1 = c)) ∨ (¬ c = 0 ∧ (zrt0 = a ∧ zrt1 = c)))))))) : lex_New_K_R f zo_0 zo_1 zrt0 zrt1 := by
 intro cb
 replace H := H cb
 refine W.kc (n := 182) Try.func22 (by kernel_rfl) (by kernel_rfl) (by kernel_rfl) (by kernel_rfl) ?_
 refine W.adv 10 ?_
 obtain ⟨d, a, c, i, H⟩ := H
 refine W.cl 13 [.str f] (.tuple [(.list 3 (d.map E_lex_Token)), .int .i64 a, .int .i64 c]) i ?_
 refine W.adv 16 ?_
 rcases H with ⟨e, H⟩ | ⟨e, H⟩
 ·refine W.cb false (!(decide (c = 0))) (congrArg (fun b => !b) (decide_eq_true e)) ?_
  refine W.adv 16 ?_
  have hd0 : ((.tuple [.pref 203 1 0 0, .int .i64 a, .int .i64 c]) : D) = .tuple [.pref 203 1 0 0, .int .i64 a, .int .i64 0] := by rw [e]
  exact W.fin (x := .ret) (by kernel_rfl) ⟨.tuple [.pref 203 1 0 0, .int .i64 a, .int .i64 0], by rw [← hd0]; kernel_rfl, .inr ⟨(by rw [H.2.2.2]; exact e), 0, by rw [H.2.2.1], by rw [H.1, H.2.1]; exact tidy_ex (b := 203) (v := 0) (fz := false) (y := .rows 2 [(.agg [(.list 3 (d.map E_lex_Token)), .int .i64 a])]) (h0 := (fun eb => [cb 0, cb 1, cb 2, cb 3, cb 4, cb 5, cb 6, cb 7, cb 8, cb 9, cb 10, cb 11, cb 12, cb 13, cb 14, cb 15, cb 16, cb 17, cb 18, cb 19, cb 20, cb 21, cb 22, cb 23, cb 24, cb 25, cb 26, cb 27, cb 28, cb 29, cb 30, cb 31, cb 32, cb 33, cb 34, cb 35, cb 36, cb 37, cb 38, cb 39, cb 40, cb 41, cb 42, cb 43, cb 44, cb 45, cb 46, cb 47, cb 48, cb 49, cb 50, cb 51, cb 52, cb 53, cb 54, cb 55, cb 56, cb 57, cb 58, cb 59, cb 60, cb 61, cb 62, cb 63, cb 64, cb 65, cb 66, cb 67, cb 68, cb 69, cb 70, cb 71, cb 72, cb 73, cb 74, cb 75, cb 76, cb 77, cb 78, cb 79, cb 80, cb 81, cb 82, cb 83, cb 84, cb 85, cb 86, cb 87, cb 88, cb 89, cb 90, cb 91, cb 92, cb 93, cb 94, cb 95, cb 96, cb 97, cb 98, cb 99, cb 100, cb 101, cb 102, cb 103, cb 104, cb 105, cb 106, cb 107, cb 108, cb 109, cb 110, cb 111, cb 112, cb 113, cb 114, cb 115, cb 116, cb 117, cb 118, cb 119, cb 120, cb 121, cb 122, cb 123, cb 124, cb 125, cb 126, cb 127, cb 128, cb 129, cb 130, cb 131, cb 132, cb 133, cb 134, cb 135, cb 136, cb 137, cb 138, cb 139, cb 140, cb 141, cb 142, cb 143, cb 144, cb 145, cb 146, cb 147, cb 148, cb 149, cb 150, cb 151, cb 152, cb 153, cb 154, cb 155, cb 156, cb 157, cb 158, cb 159, cb 160, cb 161, cb 162, cb 163, cb 164, cb 165, cb 166, cb 167, cb 168, cb 169, cb 170, cb 171, cb 172, cb 173, cb 174, cb 175, cb 176, cb 177, cb 178, cb 179, cb 180, cb 181, eb 0, eb 1, eb 2, eb 3, eb 4, eb 5, eb 6, eb 7, eb 8, eb 9, eb 10, eb 11, eb 12, eb 13, eb 14, eb 15, eb 16, eb 17, eb 18, eb 19, eb 20, ⟨0 + 1, false, .rows 2 [.agg [(.list 3 (d.map E_lex_Token)), .int .i64 a]]⟩, eb 22, eb 23])) (by kernel_rfl) (by kernel_rfl) (by kernel_rfl)⟩⟩
 ·refine W.cb true (!(decide (c = 0))) (congrArg (fun b => !b) (decide_eq_false e)) ?_
  exact W.adv 11 (W.fin (x := .ret) (by kernel_rfl) ⟨(.tuple [.nilP, .int .i64 a, .int .i64 c]), by kernel_rfl, .inl ⟨(by rw [H.2]; exact e), by rw [H.1, H.2], by kernel_rfl⟩⟩)
end Go.Proofs.YtlpbmajbalenjaaA
namespace Go.Proofs.YtlpbmajbalenjaaA
open Go Go.Proofs
theorem ref19_figure_go {a : Int} {z : Bool} (H : 48 ≤ a ∧ (a ≤ 57 ∧ (z = true) ∨ ¬ a ≤ 57 ∧ (a = 46 ∧ (z = true) ∨ ¬ a = 46 ∧ (a = 47 ∧ (z = true) ∨ ¬ a = 47 ∧ (z = (decide (a = 37)))))) ∨ ¬ 48 ≤ a ∧ (a = 46 ∧ (z = true) ∨ ¬ a = 46 ∧ (a = 47 ∧ (z = true) ∨ ¬ a = 47 ∧ (z = (decide (a = 37)))))) : ref19_figure_R a z := by
 refine W.ii Try.func33 ?_
 refine W.adv 10 ?_
 rcases H with ⟨c, H⟩ | ⟨c, H⟩
 ·refine W.gt (48 ≤ a) c ?_
  refine W.adv 1 (W.gt (48 ≤ a) c ?_)
  refine W.adv 1 (W.opS (O.pk (decide (48 ≤ a)) true (.bool (decide (a ≤ 57))) (.bool false) (decide_eq_true c)) ?_)
  refine W.adv 1 ?_
  rcases H with ⟨e, H⟩ | ⟨e, H⟩
  ·refine W.gt' (a ≤ 57) e ?_
   refine W.gt' (a ≤ 57) e ?_
   refine W.opS (O.pk (decide (a ≤ 57)) true (.bool true) (.tuple []) (decide_eq_true e)) ?_
   exact W.adv 12 (W.fr (Ans.o (.bool true) (by rw [H])))
  ·refine W.gf' (a ≤ 57) e ?_
   refine W.adv 1 (W.gf' (a ≤ 57) e ?_)
   refine W.adv 1 (W.opS (O.pk (decide (a ≤ 57)) false (.bool true) (.bool (decide (a = 46))) (decide_eq_false e)) ?_)
   refine W.adv 1 ?_
   rcases H with ⟨f, H⟩ | ⟨f, H⟩
   ·refine W.gt' (a = 46) f ?_
    refine W.gt' (a = 46) f ?_
    refine W.opS (O.pk (decide (a = 46)) true (.bool true) (.tuple []) (decide_eq_true f)) ?_
    exact W.adv 8 (W.fr (Ans.o (.bool true) (by rw [H])))
   ·refine W.gf' (a = 46) f ?_
    refine W.adv 1 (W.gf' (a = 46) f ?_)
    refine W.adv 1 (W.opS (O.pk (decide (a = 46)) false (.bool true) (.bool (decide (a = 47))) (decide_eq_false f)) ?_)
    refine W.adv 1 ?_
    rcases H with ⟨g, H⟩ | ⟨g, H⟩
    ·refine W.gt' (a = 47) g ?_
     refine W.gt' (a = 47) g ?_
     refine W.opS (O.pk (decide (a = 47)) true (.bool true) (.tuple []) (decide_eq_true g)) ?_
     exact W.adv 4 (W.fr (Ans.o (.bool true) (by rw [H])))
    ·refine W.gf' (a = 47) g ?_
     refine W.adv 1 (W.gf' (a = 47) g ?_)
     refine W.adv 1 (W.opS (O.pk (decide (a = 47)) false (.bool true) (.bool (decide (a = 37))) (decide_eq_false g)) ?_)
     exact W.adv 4 (W.fr (Ans.o (.bool (decide (a = 37))) (by rw [H])))
 ·refine W.gf (48 ≤ a) c ?_
  refine W.gf (48 ≤ a) c ?_
  refine W.opS (O.pk (decide (48 ≤ a)) false (.tuple []) (.bool false) (decide_eq_false c)) ?_
  refine W.adv 7 ?_
  rcases H with ⟨i, H⟩ | ⟨i, H⟩
  ·refine W.gt' (a = 46) i ?_
   refine W.gt' (a = 46) i ?_
   refine W.opS (O.pk (decide (a = 46)) true (.bool true) (.tuple []) (decide_eq_true i)) ?_
   exact W.adv 8 (W.fr (Ans.o (.bool true) (by rw [H])))
  ·refine W.gf' (a = 46) i ?_
   refine W.adv 1 (W.gf' (a = 46) i ?_)
   refine W.adv 1 (W.opS (O.pk (decide (a = 46)) false (.bool true) (.bool (decide (a = 47))) (decide_eq_false i)) ?_)
   refine W.adv 1 ?_
   rcases H with ⟨k, H⟩ | ⟨k, H⟩
   ·refine W.gt' (a = 47) k ?_
    refine W.gt' (a = 47) k ?_
    refine W.opS (O.pk (decide (a = 47)) true (.bool true) (.tuple []) (decide_eq_true k)) ?_
    exact W.adv 4 (W.fr (Ans.o (.bool true) (by rw [H])))
   ·refine W.gf' (a = 47) k ?_
    refine W.adv 1 (W.gf' (a = 47) k ?_)
    refine W.adv 1 (W.opS (O.pk (decide (a = 47)) false (.bool true) (.bool (decide (a = 37))) (decide_eq_false k)) ?_)
    exact W.adv 4 (W.fr (Ans.o (.bool (decide (a = 37))) (by rw [H])))
end Go.Proofs.YtlpbmajbalenjaaA
namespace Go.Proofs.YtlpbmajbalenjaaA
open Go Go.Proofs
theorem __ref19_Reader__Take_M_go {a : List T_ref19_Token} {c e : Int} {g : ByteArray} {z : Bool} {p_0 : List T_ref19_Token} {p_1 p_2 : Int} (H : (c < (a.length : Int) ∧ 0 ≤ c ∧ ∃ k f l, a.getD (c).toNat (0, ByteArray.empty, 0) = (k, f, l) ∧ (f = g ∧ z = true ∧ p_0 = a ∧ p_1 = (wi (c + 1)) ∧ p_2 = e ∨ ¬ f = g ∧ z = false ∧ p_0 = a ∧ p_1 = c ∧ p_2 = e)) ∨ ¬ c < (a.length : Int) ∧ z = false ∧ p_0 = a ∧ p_1 = c ∧ p_2 = e) : __ref19_Reader__Take_M_R a c e g z p_0 p_1 p_2 := by
 refine W.mt (T := 49) (zs := [.pref 0 1 0 0, .str g]) Try.func27 (by kernel_rfl) (by kernel_rfl) (by kernel_rfl) (by kernel_rfl) (by kernel_rfl) (by kernel_rfl) ?_
 refine W.adv 16 (W.opS (O.ln a E_ref19_Token) ?_)
 refine W.adv 2 ?_
 rcases H with ⟨d, H⟩ | ⟨d, H⟩
 ·refine W.gt (c < (a.length : Int)) d ?_
  refine W.adv 1 (W.gt (c < (a.length : Int)) d ?_)
  refine W.adv 1 (W.gt (c < (a.length : Int)) d ?_)
  refine W.adv 1 (W.gt (c < (a.length : Int)) d ?_)
  refine W.adv 1 (W.gt (c < (a.length : Int)) d ?_)
  refine W.adv 1 (W.gt (c < (a.length : Int)) d ?_)
  refine W.adv 1 (W.gt (c < (a.length : Int)) d ?_)
  refine W.adv 1 (W.gt (c < (a.length : Int)) d ?_)
  refine W.adv 1 (W.gt (c < (a.length : Int)) d ?_)
  obtain ⟨q, H⟩ := H
  obtain ⟨k, f, l, r, H⟩ := H
  refine W.opS (O.ixE E_ref19_Token 3 .i64 a c (0, ByteArray.empty, 0) (k, f, l) q d r) ?_
  refine W.gt (c < (a.length : Int)) d ?_
  refine W.adv 1 (W.gt (c < (a.length : Int)) d ?_)
  refine W.adv 1 (W.gt (c < (a.length : Int)) d ?_)
  refine W.adv 1 (W.gt (c < (a.length : Int)) d ?_)
  refine W.adv 1 (W.opS (O.pk (decide (c < (a.length : Int))) true (.bool (decide (f = g))) (.bool false) (decide_eq_true d)) ?_)
  refine W.adv 2 ?_
  rcases H with ⟨p, H⟩ | ⟨p, H⟩
  ·refine W.ct (f = g) p ?_
   exact W.adv 19 (W.fr (MAns.two (d0 := (.bool true)) (c0 := [(.list 3 (a.map E_ref19_Token)), (.int .i64 (wi (c + 1))), .int .i64 e]) (mc := [(.list 3 (a.map E_ref19_Token)), (.int .i64 (wi (c + 1))), .int .i64 e]) (by kernel_rfl) (by rw [H.1]) (by kernel_rfl) (by kernel_rfl) (by kernel_rfl) (by rw [H.2.1, H.2.2.1, H.2.2.2])))
  ·refine W.cf (f = g) p ?_
   exact W.adv 8 (W.fr (MAns.two (d0 := (.bool false)) (c0 := [(.list 3 (a.map E_ref19_Token)), .int .i64 c, .int .i64 e]) (mc := [(.list 3 (a.map E_ref19_Token)), .int .i64 c, .int .i64 e]) (by kernel_rfl) (by rw [H.1]) (by kernel_rfl) (by kernel_rfl) (by kernel_rfl) (by rw [H.2.1, H.2.2.1, H.2.2.2])))
 ·refine W.gf (c < (a.length : Int)) d ?_
  refine W.gf (c < (a.length : Int)) d ?_
  refine W.gf (c < (a.length : Int)) d ?_
  refine W.gf (c < (a.length : Int)) d ?_
  refine W.gf (c < (a.length : Int)) d ?_
  refine W.gf (c < (a.length : Int)) d ?_
  refine W.gf (c < (a.length : Int)) d ?_
  refine W.gf (c < (a.length : Int)) d ?_
  refine W.gf (c < (a.length : Int)) d ?_
  refine W.gf (c < (a.length : Int)) d ?_
  refine W.gf (c < (a.length : Int)) d ?_
  refine W.gf (c < (a.length : Int)) d ?_
  refine W.gf (c < (a.length : Int)) d ?_
  refine W.opS (O.pk (decide (c < (a.length : Int))) false (.tuple []) (.bool false) (decide_eq_false d)) ?_
  exact W.adv 11 (W.fr (MAns.two (d0 := (.bool false)) (c0 := [(.list 3 (a.map E_ref19_Token)), .int .i64 c, .int .i64 e]) (mc := [(.list 3 (a.map E_ref19_Token)), .int .i64 c, .int .i64 e]) (by kernel_rfl) (by rw [H.1]) (by kernel_rfl) (by kernel_rfl) (by kernel_rfl) (by rw [H.2.1, H.2.2.1, H.2.2.2])))
end Go.Proofs.YtlpbmajbalenjaaA
namespace Go.Proofs.YtlpbmajbalenjaaA
open Go Go.Proofs
theorem __ref19_Reader__Figure_M_go {a : List T_ref19_Token} {c e : Int} {k : ByteArray} {l : Bool} {p_0 : List T_ref19_Token} {p_1 p_2 : Int} (H : (c < (a.length : Int) ∧ 0 ≤ c ∧ ∃ f p q, a.getD (c).toNat (0, ByteArray.empty, 0) = (f, p, q) ∧ ((f = 2 ∧ 0 ≤ (wi ((wi (c + 1)) - 1)) ∧ (wi ((wi (c + 1)) - 1)) < (a.length : Int) ∧ ∃ r g s, a.getD (wi ((wi (c + 1)) - 1)).toNat (0, ByteArray.empty, 0) = (r, g, s) ∧ k = g ∧ l = true ∧ p_0 = a ∧ p_1 = (wi (c + 1)) ∧ p_2 = e) ∨ ¬ f = 2 ∧ k = ⟨#[]⟩ ∧ l = false ∧ p_0 = a ∧ p_1 = c ∧ p_2 = e)) ∨ ¬ c < (a.length : Int) ∧ k = ⟨#[]⟩ ∧ l = false ∧ p_0 = a ∧ p_1 = c ∧ p_2 = e) : __ref19_Reader__Figure_M_R a c e k l p_0 p_1 p_2 := by
 refine W.mt (T := 49) (zs := [.pref 0 1 0 0]) Try.func26 (by kernel_rfl) (by kernel_rfl) (by kernel_rfl) (by kernel_rfl) (by kernel_rfl) (by kernel_rfl) ?_
 refine W.adv 17 (W.opS (O.ln a E_ref19_Token) ?_)
 refine W.adv 2 ?_
 rcases H with ⟨d, H⟩ | ⟨d, H⟩
 ·refine W.gt (c < (a.length : Int)) d ?_
  refine W.adv 1 (W.gt (c < (a.length : Int)) d ?_)
  refine W.adv 1 (W.gt (c < (a.length : Int)) d ?_)
  refine W.adv 1 (W.gt (c < (a.length : Int)) d ?_)
  refine W.adv 1 (W.gt (c < (a.length : Int)) d ?_)
  refine W.adv 1 (W.gt (c < (a.length : Int)) d ?_)
  refine W.adv 1 (W.gt (c < (a.length : Int)) d ?_)
  refine W.adv 1 (W.gt (c < (a.length : Int)) d ?_)
  refine W.adv 1 (W.gt (c < (a.length : Int)) d ?_)
  obtain ⟨v, H⟩ := H
  obtain ⟨f, p, q, z, H⟩ := H
  refine W.opS (O.ixE E_ref19_Token 3 .i64 a c (0, ByteArray.empty, 0) (f, p, q) v d z) ?_
  refine W.gt (c < (a.length : Int)) d ?_
  refine W.adv 1 (W.gt (c < (a.length : Int)) d ?_)
  refine W.adv 1 (W.gt (c < (a.length : Int)) d ?_)
  refine W.adv 1 (W.opS (O.pk (decide (c < (a.length : Int))) true (.bool (decide (f = 2))) (.bool false) (decide_eq_true d)) ?_)
  refine W.adv 2 ?_
  rcases H with ⟨u, H⟩ | ⟨u, H⟩
  ·refine W.ct (f = 2) u ?_
   refine W.adv 23 ?_
   obtain ⟨aa, ab, H⟩ := H
   obtain ⟨r, g, s, ac, H⟩ := H
   refine W.opS (O.ixE E_ref19_Token 3 .i64 a (wi ((wi (c + 1)) - 1)) (0, ByteArray.empty, 0) (r, g, s) aa ab ac) ?_
   exact W.adv 8 (W.fr (MAns.two (d0 := (.tuple [.str g, .bool true])) (c0 := [(.list 3 (a.map E_ref19_Token)), (.int .i64 (wi (c + 1))), .int .i64 e]) (mc := [(.list 3 (a.map E_ref19_Token)), (.int .i64 (wi (c + 1))), .int .i64 e]) (by kernel_rfl) (by rw [H.1, H.2.1]) (by kernel_rfl) (by kernel_rfl) (by kernel_rfl) (by rw [H.2.2.1, H.2.2.2.1, H.2.2.2.2])))
  ·refine W.cf (f = 2) u ?_
   exact W.adv 9 (W.fr (MAns.two (d0 := (.tuple [.str ⟨#[]⟩, .bool false])) (c0 := [(.list 3 (a.map E_ref19_Token)), .int .i64 c, .int .i64 e]) (mc := [(.list 3 (a.map E_ref19_Token)), .int .i64 c, .int .i64 e]) (by kernel_rfl) (by rw [H.1, H.2.1]) (by kernel_rfl) (by kernel_rfl) (by kernel_rfl) (by rw [H.2.2.1, H.2.2.2.1, H.2.2.2.2])))
 ·refine W.gf (c < (a.length : Int)) d ?_
  refine W.gf (c < (a.length : Int)) d ?_
  refine W.gf (c < (a.length : Int)) d ?_
  refine W.gf (c < (a.length : Int)) d ?_
  refine W.gf (c < (a.length : Int)) d ?_
  refine W.gf (c < (a.length : Int)) d ?_
  refine W.gf (c < (a.length : Int)) d ?_
  refine W.gf (c < (a.length : Int)) d ?_
  refine W.gf (c < (a.length : Int)) d ?_
  refine W.gf (c < (a.length : Int)) d ?_
  refine W.gf (c < (a.length : Int)) d ?_
  refine W.gf (c < (a.length : Int)) d ?_
  refine W.opS (O.pk (decide (c < (a.length : Int))) false (.tuple []) (.bool false) (decide_eq_false d)) ?_
  exact W.adv 12 (W.fr (MAns.two (d0 := (.tuple [.str ⟨#[]⟩, .bool false])) (c0 := [(.list 3 (a.map E_ref19_Token)), .int .i64 c, .int .i64 e]) (mc := [(.list 3 (a.map E_ref19_Token)), .int .i64 c, .int .i64 e]) (by kernel_rfl) (by rw [H.1, H.2.1]) (by kernel_rfl) (by kernel_rfl) (by kernel_rfl) (by rw [H.2.2.1, H.2.2.2.1, H.2.2.2.2])))
end Go.Proofs.YtlpbmajbalenjaaA
namespace Go.Proofs.YtlpbmajbalenjaaA
open Go Go.Proofs
section
variable (c r6s : ByteArray) (r6p : Nat) (k : ByteArray) (z : Bool)
noncomputable def name_Word_l0_s (j : Nat → D) (jb : Nat → Blk) (vs : Nat → Nat) : Cf := cfAt Try.f30 [1, 0, 1, 0] ⟨([.str c] ++ (J j 1 5 ++ ([.pref 6 1 0 0] ++ J j 7 18))), (J jb 0 6 ++ ([⟨1, false, .iter r6s r6p⟩] ++ J jb 7 18))⟩
def name_Word_l0 : Prop := ∀ j jb vs, W C F 30 0 (name_Word_l0_s c r6s r6p  j jb vs) (Ans C Try.f30 (.bool z))
variable {c r6s r6p k z}
theorem name_Word_l0_go (H : (r6p < r6s.size ∧ ∃ a, name_letter_R (((Utf8.decode r6s r6p).1 : Nat) : Int) a ∧ (a = true ∧ name_Word_l0 c r6s (r6p + (Utf8.decode r6s r6p).2) z ∨ ¬ a = true ∧ (((r6p : Nat) : Int) = 0 ∧ (z = false) ∨ ¬ ((r6p : Nat) : Int) = 0 ∧ ∃ f, name_other_R (((Utf8.decode r6s r6p).1 : Nat) : Int) f ∧ (f = true ∧ name_Word_l0 c r6s (r6p + (Utf8.decode r6s r6p).2) z ∨ ¬ f = true ∧ (z = false))))) ∨ ¬ r6p < r6s.size ∧ (z = (!(decide (c = ⟨#[]⟩))))) : name_Word_l0 c r6s r6p z := by
 intro j jb vs
 refine W.adv 1 (W.adv 2 ?_)
 rcases H with ⟨l, H⟩ | ⟨l, H⟩
 ·refine W.opH (OpIs.nxT (b := 6) (v := 1) (w := 1) (pos := r6p) (s := r6s) (by kernel_rfl) rfl l) ?_
  refine W.adv 19 ?_
  obtain ⟨a, n, H⟩ := H
  refine W.cl 40 [(.int .i32 (((Utf8.decode r6s r6p).1 : Nat) : Int))] (.bool a) n ?_
  refine W.adv 2 ?_
  rcases H with ⟨e, H⟩ | ⟨e, H⟩
  ·refine W.gb false ((!a) == true) (congrArg (fun b => b == true) (congrArg (fun b => !b) e)) ?_
   refine W.gb false ((!a) == true) (congrArg (fun b => b == true) (congrArg (fun b => !b) e)) ?_
   refine W.gb false ((!a) == true) (congrArg (fun b => b == true) (congrArg (fun b => !b) e)) ?_
   refine W.adv 3 (W.gb false ((!a) == true) (congrArg (fun b => b == true) (congrArg (fun b => !b) e)) ?_)
   refine W.opS (O.pk (!a) false (.tuple []) (.bool false) (congrArg (fun b => !b) e)) ?_
   exact W.adv 6 (W.tl H)
  ·refine W.gb true ((!a) == true) (congrArg (fun b => b == true) (congrArg (fun b => !b) (bfalse e))) ?_
   refine W.adv 1 (W.gb true ((!a) == true) (congrArg (fun b => b == true) (congrArg (fun b => !b) (bfalse e))) ?_)
   refine W.adv 1 (W.gb true ((!a) == true) (congrArg (fun b => b == true) (congrArg (fun b => !b) (bfalse e))) ?_)
   refine W.adv 1 ?_
   rcases H with ⟨i, H⟩ | ⟨i, H⟩
   ·refine W.gt' (((r6p : Nat) : Int) = 0) i ?_
    refine W.gt' (((r6p : Nat) : Int) = 0) i ?_
    refine W.gt' (((r6p : Nat) : Int) = 0) i ?_
    refine W.gb true ((!a) == true) (congrArg (fun b => b == true) (congrArg (fun b => !b) (bfalse e))) ?_
    refine W.opS (O.pk (decide (((r6p : Nat) : Int) = 0)) true (.bool true) (.tuple []) (decide_eq_true i)) ?_
    refine W.opS (O.pk (!a) true (.bool true) (.bool false) (congrArg (fun b => !b) (bfalse e))) ?_
    exact W.adv 13 (W.fr (Ans.o (.bool false) (by rw [H])))
   ·refine W.gf' (((r6p : Nat) : Int) = 0) i ?_
    refine W.adv 1 (W.gf' (((r6p : Nat) : Int) = 0) i ?_)
    obtain ⟨f, p, H⟩ := H
    refine W.cl 41 [(.int .i32 (((Utf8.decode r6s r6p).1 : Nat) : Int))] (.bool f) p ?_
    refine W.gf' (((r6p : Nat) : Int) = 0) i ?_
    refine W.adv 1 (W.gb true ((!a) == true) (congrArg (fun b => b == true) (congrArg (fun b => !b) (bfalse e))) ?_)
    refine W.opS (O.pk (decide (((r6p : Nat) : Int) = 0)) false (.bool true) (.bool (!f)) (decide_eq_false i)) ?_
    refine W.opS (O.pk (!a) true (.bool (!f)) (.bool false) (congrArg (fun b => !b) (bfalse e))) ?_
    refine W.adv 2 ?_
    rcases H with ⟨m, H⟩ | ⟨m, H⟩
    ·refine W.cb false (!f) (congrArg (fun b => !b) m) ?_
     exact W.adv 3 (W.tl H)
    ·refine W.cb true (!f) (congrArg (fun b => !b) (bfalse m)) ?_
     exact W.adv 10 (W.fr (Ans.o (.bool false) (by rw [H])))
 ·refine W.opS (OpIs.nxF (b := 6) (v := 1) (w := 1) (pos := r6p) (s := r6s) (by kernel_rfl) rfl l) ?_
  exact W.adv 18 (W.fr (Ans.o (.bool (!(decide (c = ⟨#[]⟩)))) (by rw [H])))
theorem name_Word_go (H : name_Word_l0 k k 0 z) : name_Word_R k z := by
 refine W.ii Try.func30 ?_
 exact W.adv 13 (W.tl H)
end
end Go.Proofs.YtlpbmajbalenjaaA
namespace Go.Proofs.YtlpbmajbalenjaaA
open Go Go.Proofs
theorem __lex_Reader__take_M_go {d : List T_lex_Token} {e : Int} {q : ByteArray} {s : Bool} {p_0 : List T_lex_Token} {p_1 : Int} (H : ∃ a, __lex_Reader__Done_v1_R d e a ∧ (a = true ∧ q = ⟨#[]⟩ ∧ s = false ∧ p_0 = d ∧ p_1 = e ∨ ¬ a = true ∧ 0 < (d.length : Int) ∧ ∃ k l m, d.getD 0 (0, ByteArray.empty, 0) = (k, l, m) ∧ ∃ f, __lex_Reader__Name_1_R k l m f ∧ ((f = true ∧ ∃ u p v, d.getD 0 (0, ByteArray.empty, 0) = (u, p, v) ∧ 1 ≤ (d.length : Int) ∧ q = p ∧ s = true ∧ p_0 = (d.drop 1) ∧ p_1 = e) ∨ ¬ f = true ∧ q = ⟨#[]⟩ ∧ s = false ∧ p_0 = d ∧ p_1 = e))) : __lex_Reader__take_M_R d e q s p_0 p_1 := by
 refine W.mt (T := 61) (zs := [.pref 0 1 0 0, .fn 36 [] []]) Try.func35 (by kernel_rfl) (by kernel_rfl) (by kernel_rfl) (by kernel_rfl) (by kernel_rfl) (by kernel_rfl) ?_
 refine W.adv 10 ?_
 obtain ⟨a, ab, H⟩ := H
 refine W.callR (g := 18) (ds := [.pref 0 1 0 0]) (es := [(.ptr [(.list 3 (d.map E_lex_Token)), .int .i64 e])]) (r := (.bool a)) (by kernel_rfl) (rf_cons (by kernel_rfl) rf_nil) (Ic.args ab (by kernel_rfl)) (by kernel_rfl) ?_
 refine W.adv 1 ?_
 rcases H with ⟨c, H⟩ | ⟨c, H⟩
 ·refine W.gb false (a == false) (congrArg (fun b => b == false) c) ?_
  refine W.gb false (a == false) (congrArg (fun b => b == false) c) ?_
  refine W.gb false (a == false) (congrArg (fun b => b == false) c) ?_
  refine W.gb false (a == false) (congrArg (fun b => b == false) c) ?_
  refine W.gb false (a == false) (congrArg (fun b => b == false) c) ?_
  refine W.gb false (a == false) (congrArg (fun b => b == false) c) ?_
  refine W.gb false (a == false) (congrArg (fun b => b == false) c) ?_
  refine W.gb false (a == false) (congrArg (fun b => b == false) c) ?_
  refine W.gb false (a == false) (congrArg (fun b => b == false) c) ?_
  refine W.opS (O.pk a true (.bool true) (.tuple []) c) ?_
  exact W.adv 11 (W.fr (MAns.two (d0 := (.tuple [.str ⟨#[]⟩, .bool false])) (c0 := [(.list 3 (d.map E_lex_Token)), .int .i64 e]) (mc := [(.list 3 (d.map E_lex_Token)), .int .i64 e]) (by kernel_rfl) (by rw [H.1, H.2.1]) (by kernel_rfl) (by kernel_rfl) (by kernel_rfl) (by rw [H.2.2.1, H.2.2.2])))
 ·refine W.gb true (a == false) (congrArg (fun b => b == false) (bfalse c)) ?_
  refine W.adv 1 (W.gb true (a == false) (congrArg (fun b => b == false) (bfalse c)) ?_)
  refine W.adv 1 (W.gb true (a == false) (congrArg (fun b => b == false) (bfalse c)) ?_)
  refine W.adv 1 (W.gb true (a == false) (congrArg (fun b => b == false) (bfalse c)) ?_)
  refine W.adv 1 (W.gb true (a == false) (congrArg (fun b => b == false) (bfalse c)) ?_)
  refine W.adv 1 (W.gb true (a == false) (congrArg (fun b => b == false) (bfalse c)) ?_)
  obtain ⟨aa, H⟩ := H
  obtain ⟨k, l, m, ac, H⟩ := H
  refine W.opS (O.ixE E_lex_Token 3 .i64 d 0 (0, ByteArray.empty, 0) (k, l, m) (by decide) aa ac) ?_
  refine W.gb true (a == false) (congrArg (fun b => b == false) (bfalse c)) ?_
  refine W.adv 1 (W.gb true (a == false) (congrArg (fun b => b == false) (bfalse c)) ?_)
  obtain ⟨f, ad, H⟩ := H
  refine W.cl 36 [(.agg [.int .i64 k, .str l, .int .i64 m])] (.bool f) ad ?_
  refine W.gb true (a == false) (congrArg (fun b => b == false) (bfalse c)) ?_
  refine W.adv 1 (W.opS (O.pk a false (.bool true) (.bool (!f)) (bfalse c)) ?_)
  refine W.adv 2 ?_
  rcases H with ⟨z, H⟩ | ⟨z, H⟩
  ·refine W.cb false (!f) (congrArg (fun b => !b) z) ?_
   refine W.adv 8 ?_
   obtain ⟨u, p, v, ae, H⟩ := H
   refine W.opS (O.ixE E_lex_Token 3 .i64 d 0 (0, ByteArray.empty, 0) (u, p, v) (by decide) aa ae) ?_
   refine W.adv 12 ?_
   obtain ⟨af, H⟩ := H
   refine W.opS (OpIs.slE_lo (enc := E_lex_Token) (n := 3) (k' := .i64) (L := d) (i := 1) (by kernel_rfl) (by decide) af) ?_
   exact W.adv 14 (W.fr (MAns.two (d0 := (.tuple [.str p, .bool true])) (c0 := [(.list 3 ((d.drop 1).map E_lex_Token)), .int .i64 e]) (mc := [(.list 3 ((d.drop 1).map E_lex_Token)), .int .i64 e]) (by kernel_rfl) (by rw [H.1, H.2.1]) (by kernel_rfl) (by kernel_rfl) (by kernel_rfl) (by rw [H.2.2.1, H.2.2.2])))
  ·refine W.cb true (!f) (congrArg (fun b => !b) (bfalse z)) ?_
   exact W.adv 8 (W.fr (MAns.two (d0 := (.tuple [.str ⟨#[]⟩, .bool false])) (c0 := [(.list 3 (d.map E_lex_Token)), .int .i64 e]) (mc := [(.list 3 (d.map E_lex_Token)), .int .i64 e]) (by kernel_rfl) (by rw [H.1, H.2.1]) (by kernel_rfl) (by kernel_rfl) (by kernel_rfl) (by rw [H.2.2.1, H.2.2.2])))
end Go.Proofs.YtlpbmajbalenjaaA
namespace Go.Proofs.YtlpbmajbalenjaaA
open Go Go.Proofs
theorem __lex_Reader__take_M1_go {d : List T_lex_Token} {e : Int} {q : ByteArray} {s : Bool} {p_0 : List T_lex_Token} {p_1 : Int} (H : ∃ a, __lex_Reader__Done_v1_R d e a ∧ (a = true ∧ q = ⟨#[]⟩ ∧ s = false ∧ p_0 = d ∧ p_1 = e ∨ ¬ a = true ∧ 0 < (d.length : Int) ∧ ∃ k l m, d.getD 0 (0, ByteArray.empty, 0) = (k, l, m) ∧ ∃ f, __lex_Reader__Figure_1_R k l m f ∧ ((f = true ∧ ∃ u p v, d.getD 0 (0, ByteArray.empty, 0) = (u, p, v) ∧ 1 ≤ (d.length : Int) ∧ q = p ∧ s = true ∧ p_0 = (d.drop 1) ∧ p_1 = e) ∨ ¬ f = true ∧ q = ⟨#[]⟩ ∧ s = false ∧ p_0 = d ∧ p_1 = e))) : __lex_Reader__take_M1_R d e q s p_0 p_1 := by
 refine W.mt (T := 61) (zs := [.pref 0 1 0 0, .fn 37 [] []]) Try.func35 (by kernel_rfl) (by kernel_rfl) (by kernel_rfl) (by kernel_rfl) (by kernel_rfl) (by kernel_rfl) ?_
 refine W.adv 10 ?_
 obtain ⟨a, ab, H⟩ := H
 refine W.callR (g := 18) (ds := [.pref 0 1 0 0]) (es := [(.ptr [(.list 3 (d.map E_lex_Token)), .int .i64 e])]) (r := (.bool a)) (by kernel_rfl) (rf_cons (by kernel_rfl) rf_nil) (Ic.args ab (by kernel_rfl)) (by kernel_rfl) ?_
 refine W.adv 1 ?_
 rcases H with ⟨c, H⟩ | ⟨c, H⟩
 ·refine W.gb false (a == false) (congrArg (fun b => b == false) c) ?_
  refine W.gb false (a == false) (congrArg (fun b => b == false) c) ?_
  refine W.gb false (a == false) (congrArg (fun b => b == false) c) ?_
  refine W.gb false (a == false) (congrArg (fun b => b == false) c) ?_
  refine W.gb false (a == false) (congrArg (fun b => b == false) c) ?_
  refine W.gb false (a == false) (congrArg (fun b => b == false) c) ?_
  refine W.gb false (a == false) (congrArg (fun b => b == false) c) ?_
  refine W.gb false (a == false) (congrArg (fun b => b == false) c) ?_
  refine W.gb false (a == false) (congrArg (fun b => b == false) c) ?_
  refine W.opS (O.pk a true (.bool true) (.tuple []) c) ?_
  exact W.adv 11 (W.fr (MAns.two (d0 := (.tuple [.str ⟨#[]⟩, .bool false])) (c0 := [(.list 3 (d.map E_lex_Token)), .int .i64 e]) (mc := [(.list 3 (d.map E_lex_Token)), .int .i64 e]) (by kernel_rfl) (by rw [H.1, H.2.1]) (by kernel_rfl) (by kernel_rfl) (by kernel_rfl) (by rw [H.2.2.1, H.2.2.2])))
 ·refine W.gb true (a == false) (congrArg (fun b => b == false) (bfalse c)) ?_
  refine W.adv 1 (W.gb true (a == false) (congrArg (fun b => b == false) (bfalse c)) ?_)
  refine W.adv 1 (W.gb true (a == false) (congrArg (fun b => b == false) (bfalse c)) ?_)
  refine W.adv 1 (W.gb true (a == false) (congrArg (fun b => b == false) (bfalse c)) ?_)
  refine W.adv 1 (W.gb true (a == false) (congrArg (fun b => b == false) (bfalse c)) ?_)
  refine W.adv 1 (W.gb true (a == false) (congrArg (fun b => b == false) (bfalse c)) ?_)
  obtain ⟨aa, H⟩ := H
  obtain ⟨k, l, m, ac, H⟩ := H
  refine W.opS (O.ixE E_lex_Token 3 .i64 d 0 (0, ByteArray.empty, 0) (k, l, m) (by decide) aa ac) ?_
  refine W.gb true (a == false) (congrArg (fun b => b == false) (bfalse c)) ?_
  refine W.adv 1 (W.gb true (a == false) (congrArg (fun b => b == false) (bfalse c)) ?_)
  obtain ⟨f, ad, H⟩ := H
  refine W.cl 37 [(.agg [.int .i64 k, .str l, .int .i64 m])] (.bool f) ad ?_
  refine W.gb true (a == false) (congrArg (fun b => b == false) (bfalse c)) ?_
  refine W.adv 1 (W.opS (O.pk a false (.bool true) (.bool (!f)) (bfalse c)) ?_)
  refine W.adv 2 ?_
  rcases H with ⟨z, H⟩ | ⟨z, H⟩
  ·refine W.cb false (!f) (congrArg (fun b => !b) z) ?_
   refine W.adv 8 ?_
   obtain ⟨u, p, v, ae, H⟩ := H
   refine W.opS (O.ixE E_lex_Token 3 .i64 d 0 (0, ByteArray.empty, 0) (u, p, v) (by decide) aa ae) ?_
   refine W.adv 12 ?_
   obtain ⟨af, H⟩ := H
   refine W.opS (OpIs.slE_lo (enc := E_lex_Token) (n := 3) (k' := .i64) (L := d) (i := 1) (by kernel_rfl) (by decide) af) ?_
   exact W.adv 14 (W.fr (MAns.two (d0 := (.tuple [.str p, .bool true])) (c0 := [(.list 3 ((d.drop 1).map E_lex_Token)), .int .i64 e]) (mc := [(.list 3 ((d.drop 1).map E_lex_Token)), .int .i64 e]) (by kernel_rfl) (by rw [H.1, H.2.1]) (by kernel_rfl) (by kernel_rfl) (by kernel_rfl) (by rw [H.2.2.1, H.2.2.2])))
  ·refine W.cb true (!f) (congrArg (fun b => !b) (bfalse z)) ?_
   exact W.adv 8 (W.fr (MAns.two (d0 := (.tuple [.str ⟨#[]⟩, .bool false])) (c0 := [(.list 3 (d.map E_lex_Token)), .int .i64 e]) (mc := [(.list 3 (d.map E_lex_Token)), .int .i64 e]) (by kernel_rfl) (by rw [H.1, H.2.1]) (by kernel_rfl) (by kernel_rfl) (by kernel_rfl) (by rw [H.2.2.1, H.2.2.2])))
end Go.Proofs.YtlpbmajbalenjaaA
namespace Go.Proofs.YtlpbmajbalenjaaA
open Go Go.Proofs
theorem __ref19_Reader__Name_M_go {a : List T_ref19_Token} {c k : Int} {q : ByteArray} {s : Bool} {p_0 : List T_ref19_Token} {p_1 p_2 : Int} (H : (c < (a.length : Int) ∧ 0 ≤ c ∧ ∃ d v z, a.getD (c).toNat (0, ByteArray.empty, 0) = (d, v, z) ∧ ((d = 1 ∧ ∃ aa p ab, a.getD (c).toNat (0, ByteArray.empty, 0) = (aa, p, ab) ∧ ∃ l, ref17_Keyword_R p l ∧ (l = true ∧ q = ⟨#[]⟩ ∧ s = false ∧ p_0 = a ∧ p_1 = c ∧ p_2 = k ∨ ¬ l = true ∧ 0 ≤ (wi ((wi (c + 1)) - 1)) ∧ (wi ((wi (c + 1)) - 1)) < (a.length : Int) ∧ ∃ ac u ad, a.getD (wi ((wi (c + 1)) - 1)).toNat (0, ByteArray.empty, 0) = (ac, u, ad) ∧ q = u ∧ s = true ∧ p_0 = a ∧ p_1 = (wi (c + 1)) ∧ p_2 = k)) ∨ ¬ d = 1 ∧ q = ⟨#[]⟩ ∧ s = false ∧ p_0 = a ∧ p_1 = c ∧ p_2 = k)) ∨ ¬ c < (a.length : Int) ∧ q = ⟨#[]⟩ ∧ s = false ∧ p_0 = a ∧ p_1 = c ∧ p_2 = k) : __ref19_Reader__Name_M_R a c k q s p_0 p_1 p_2 := by
 refine W.mt (T := 49) (zs := [.pref 0 1 0 0]) Try.func25 (by kernel_rfl) (by kernel_rfl) (by kernel_rfl) (by kernel_rfl) (by kernel_rfl) (by kernel_rfl) ?_
 refine W.adv 17 (W.opS (O.ln a E_ref19_Token) ?_)
 refine W.adv 2 ?_
 rcases H with ⟨e, H⟩ | ⟨e, H⟩
 ·refine W.gt (c < (a.length : Int)) e ?_
  refine W.adv 1 (W.gt (c < (a.length : Int)) e ?_)
  refine W.adv 1 (W.gt (c < (a.length : Int)) e ?_)
  refine W.adv 1 (W.gt (c < (a.length : Int)) e ?_)
  refine W.adv 1 (W.gt (c < (a.length : Int)) e ?_)
  refine W.adv 1 (W.gt (c < (a.length : Int)) e ?_)
  refine W.adv 1 (W.gt (c < (a.length : Int)) e ?_)
  refine W.adv 1 (W.gt (c < (a.length : Int)) e ?_)
  refine W.adv 1 (W.gt (c < (a.length : Int)) e ?_)
  obtain ⟨af, H⟩ := H
  obtain ⟨d, v, z, ag, H⟩ := H
  refine W.opS (O.ixE E_ref19_Token 3 .i64 a c (0, ByteArray.empty, 0) (d, v, z) af e ag) ?_
  refine W.gt (c < (a.length : Int)) e ?_
  refine W.adv 1 (W.gt (c < (a.length : Int)) e ?_)
  refine W.adv 1 (W.gt (c < (a.length : Int)) e ?_)
  refine W.adv 1 (W.opS (O.pk (decide (c < (a.length : Int))) true (.bool (decide (d = 1))) (.bool false) (decide_eq_true e)) ?_)
  refine W.adv 1 ?_
  rcases H with ⟨f, H⟩ | ⟨f, H⟩
  ·refine W.gt (d = 1) f ?_
   refine W.adv 1 (W.gt (d = 1) f ?_)
   refine W.adv 1 (W.gt (d = 1) f ?_)
   refine W.adv 1 (W.gt (d = 1) f ?_)
   refine W.adv 1 (W.gt (d = 1) f ?_)
   refine W.adv 1 (W.gt (d = 1) f ?_)
   refine W.adv 1 (W.gt (d = 1) f ?_)
   refine W.adv 1 (W.gt (d = 1) f ?_)
   refine W.adv 1 (W.gt (d = 1) f ?_)
   obtain ⟨aa, p, ab, ai, H⟩ := H
   refine W.opS (O.ixE E_ref19_Token 3 .i64 a c (0, ByteArray.empty, 0) (aa, p, ab) af e ai) ?_
   refine W.gt (d = 1) f ?_
   refine W.adv 1 (W.gt (d = 1) f ?_)
   refine W.adv 1 (W.gt (d = 1) f ?_)
   obtain ⟨l, ak, H⟩ := H
   refine W.cl 38 [.str p] (.bool l) ak ?_
   refine W.gt (d = 1) f ?_
   refine W.adv 1 (W.opS (O.pk (decide (d = 1)) true (.bool (!l)) (.bool false) (decide_eq_true f)) ?_)
   refine W.adv 2 ?_
   rcases H with ⟨ae, H⟩ | ⟨ae, H⟩
   ·refine W.cb false (!l) (congrArg (fun b => !b) ae) ?_
    exact W.adv 9 (W.fr (MAns.two (d0 := (.tuple [.str ⟨#[]⟩, .bool false])) (c0 := [(.list 3 (a.map E_ref19_Token)), .int .i64 c, .int .i64 k]) (mc := [(.list 3 (a.map E_ref19_Token)), .int .i64 c, .int .i64 k]) (by kernel_rfl) (by rw [H.1, H.2.1]) (by kernel_rfl) (by kernel_rfl) (by kernel_rfl) (by rw [H.2.2.1, H.2.2.2.1, H.2.2.2.2])))
   ·refine W.cb true (!l) (congrArg (fun b => !b) (bfalse ae)) ?_
    refine W.adv 23 ?_
    obtain ⟨al, am, H⟩ := H
    obtain ⟨ac, u, ad, an, H⟩ := H
    refine W.opS (O.ixE E_ref19_Token 3 .i64 a (wi ((wi (c + 1)) - 1)) (0, ByteArray.empty, 0) (ac, u, ad) al am an) ?_
    exact W.adv 8 (W.fr (MAns.two (d0 := (.tuple [.str u, .bool true])) (c0 := [(.list 3 (a.map E_ref19_Token)), (.int .i64 (wi (c + 1))), .int .i64 k]) (mc := [(.list 3 (a.map E_ref19_Token)), (.int .i64 (wi (c + 1))), .int .i64 k]) (by kernel_rfl) (by rw [H.1, H.2.1]) (by kernel_rfl) (by kernel_rfl) (by kernel_rfl) (by rw [H.2.2.1, H.2.2.2.1, H.2.2.2.2])))
  ·refine W.gf (d = 1) f ?_
   refine W.gf (d = 1) f ?_
   refine W.gf (d = 1) f ?_
   refine W.gf (d = 1) f ?_
   refine W.gf (d = 1) f ?_
   refine W.gf (d = 1) f ?_
   refine W.gf (d = 1) f ?_
   refine W.gf (d = 1) f ?_
   refine W.gf (d = 1) f ?_
   refine W.gf (d = 1) f ?_
   refine W.gf (d = 1) f ?_
   refine W.gf (d = 1) f ?_
   refine W.gf (d = 1) f ?_
   refine W.opS (O.pk (decide (d = 1)) false (.tuple []) (.bool false) (decide_eq_false f)) ?_
   exact W.adv 12 (W.fr (MAns.two (d0 := (.tuple [.str ⟨#[]⟩, .bool false])) (c0 := [(.list 3 (a.map E_ref19_Token)), .int .i64 c, .int .i64 k]) (mc := [(.list 3 (a.map E_ref19_Token)), .int .i64 c, .int .i64 k]) (by kernel_rfl) (by rw [H.1, H.2.1]) (by kernel_rfl) (by kernel_rfl) (by kernel_rfl) (by rw [H.2.2.1, H.2.2.2.1, H.2.2.2.2])))
 ·refine W.gf (c < (a.length : Int)) e ?_
  refine W.gf (c < (a.length : Int)) e ?_
  refine W.gf (c < (a.length : Int)) e ?_
  refine W.gf (c < (a.length : Int)) e ?_
  refine W.gf (c < (a.length : Int)) e ?_
  refine W.gf (c < (a.length : Int)) e ?_
  refine W.gf (c < (a.length : Int)) e ?_
  refine W.gf (c < (a.length : Int)) e ?_
  refine W.gf (c < (a.length : Int)) e ?_
  refine W.gf (c < (a.length : Int)) e ?_
  refine W.gf (c < (a.length : Int)) e ?_
  refine W.gf (c < (a.length : Int)) e ?_
  refine W.opS (O.pk (decide (c < (a.length : Int))) false (.tuple []) (.bool false) (decide_eq_false e)) ?_
  exact W.adv 27 (W.fr (MAns.two (d0 := (.tuple [.str ⟨#[]⟩, .bool false])) (c0 := [(.list 3 (a.map E_ref19_Token)), .int .i64 c, .int .i64 k]) (mc := [(.list 3 (a.map E_ref19_Token)), .int .i64 c, .int .i64 k]) (by kernel_rfl) (by rw [H.1, H.2.1]) (by kernel_rfl) (by kernel_rfl) (by kernel_rfl) (by rw [H.2.2.1, H.2.2.2.1, H.2.2.2.2])))
end Go.Proofs.YtlpbmajbalenjaaA
namespace Go.Proofs.YtlpbmajbalenjaaA
open Go Go.Proofs
section
variable (c : ByteArray) (a : Int) (ar : ByteArray) (z : Bool)
noncomputable def ref17_Word_l0_s (j : Nat → D) (jb : Nat → Blk) (vs : Nat → Nat) : Cf := cfAt Try.f34 [1, 0, 1, 0] ⟨([.str c, j 1, j 2, .int .i64 a] ++ J j 4 45), (J jb 0 49)⟩
def ref17_Word_l0 : Prop := ∀ j jb vs, W C F 34 0 (ref17_Word_l0_s c a  j jb vs) (Ans C Try.f34 (.bool z))
variable {c a ar z}
theorem ref17_Word_l0_go (H : a < (c.size : Int) ∧ 0 ≤ a ∧ (97 ≤ (letter c a) ∧ (48 ≤ (letter c a) ∧ ((letter c a) ≤ 57 ∧ ((letter c a) ≤ 122 ∧ ref17_Word_l0 c (wi (a + 1)) z ∨ ¬ (letter c a) ≤ 122 ∧ (a = 0 ∧ (z = false) ∨ ¬ a = 0 ∧ ref17_Word_l0 c (wi (a + 1)) z)) ∨ ¬ (letter c a) ≤ 57 ∧ ((letter c a) = 45 ∧ ((letter c a) ≤ 122 ∧ ref17_Word_l0 c (wi (a + 1)) z ∨ ¬ (letter c a) ≤ 122 ∧ (a = 0 ∧ (z = false) ∨ ¬ a = 0 ∧ ref17_Word_l0 c (wi (a + 1)) z)) ∨ ¬ (letter c a) = 45 ∧ ((letter c a) ≤ 122 ∧ ref17_Word_l0 c (wi (a + 1)) z ∨ ¬ (letter c a) ≤ 122 ∧ (a = 0 ∧ (z = false) ∨ ¬ a = 0 ∧ ((letter c a) = 95 ∧ ref17_Word_l0 c (wi (a + 1)) z ∨ ¬ (letter c a) = 95 ∧ (z = false)))))) ∨ ¬ 48 ≤ (letter c a) ∧ ((letter c a) = 45 ∧ ((letter c a) ≤ 122 ∧ ref17_Word_l0 c (wi (a + 1)) z ∨ ¬ (letter c a) ≤ 122 ∧ (a = 0 ∧ (z = false) ∨ ¬ a = 0 ∧ ref17_Word_l0 c (wi (a + 1)) z)) ∨ ¬ (letter c a) = 45 ∧ ((letter c a) ≤ 122 ∧ ref17_Word_l0 c (wi (a + 1)) z ∨ ¬ (letter c a) ≤ 122 ∧ (a = 0 ∧ (z = false) ∨ ¬ a = 0 ∧ ((letter c a) = 95 ∧ ref17_Word_l0 c (wi (a + 1)) z ∨ ¬ (letter c a) = 95 ∧ (z = false)))))) ∨ ¬ 97 ≤ (letter c a) ∧ (48 ≤ (letter c a) ∧ ((letter c a) ≤ 57 ∧ (a = 0 ∧ (z = false) ∨ ¬ a = 0 ∧ ref17_Word_l0 c (wi (a + 1)) z) ∨ ¬ (letter c a) ≤ 57 ∧ ((letter c a) = 45 ∧ (a = 0 ∧ (z = false) ∨ ¬ a = 0 ∧ ref17_Word_l0 c (wi (a + 1)) z) ∨ ¬ (letter c a) = 45 ∧ (a = 0 ∧ (z = false) ∨ ¬ a = 0 ∧ ((letter c a) = 95 ∧ ref17_Word_l0 c (wi (a + 1)) z ∨ ¬ (letter c a) = 95 ∧ (z = false))))) ∨ ¬ 48 ≤ (letter c a) ∧ ((letter c a) = 45 ∧ (a = 0 ∧ (z = false) ∨ ¬ a = 0 ∧ ref17_Word_l0 c (wi (a + 1)) z) ∨ ¬ (letter c a) = 45 ∧ (a = 0 ∧ (z = false) ∨ ¬ a = 0 ∧ ((letter c a) = 95 ∧ ref17_Word_l0 c (wi (a + 1)) z ∨ ¬ (letter c a) = 95 ∧ (z = false)))))) ∨ ¬ a < (c.size : Int) ∧ (z = (decide (0 < (c.size : Int))))) : ref17_Word_l0 c a z := by
 intro j jb vs
 refine W.adv 1 (W.adv 9 ?_)
 rcases H with ⟨aq, H⟩ | ⟨aq, H⟩
 ·refine W.ct (a < (c.size : Int)) aq ?_
  refine W.adv 8 ?_
  obtain ⟨az, H⟩ := H
  refine W.opS (OpIs.ixT (k := .i64) (s := c) (i := a) (by kernel_rfl) az aq) ?_
  refine W.adv 8 ?_
  rcases H with ⟨n, H⟩ | ⟨n, H⟩
  ·refine W.gt (97 ≤ (letter c a)) n ?_
   refine W.adv 1 (W.gt (97 ≤ (letter c a)) n ?_)
   refine W.adv 1 (W.opS (O.pk (decide (97 ≤ (letter c a))) true (.bool (decide ((letter c a) ≤ 122))) (.bool false) (decide_eq_true n)) ?_)
   refine W.adv 8 ?_
   rcases H with ⟨p, H⟩ | ⟨p, H⟩
   ·refine W.gt (48 ≤ (letter c a)) p ?_
    refine W.adv 1 (W.gt (48 ≤ (letter c a)) p ?_)
    refine W.adv 1 (W.opS (O.pk (decide (48 ≤ (letter c a))) true (.bool (decide ((letter c a) ≤ 57))) (.bool false) (decide_eq_true p)) ?_)
    refine W.adv 1 ?_
    rcases H with ⟨q, H⟩ | ⟨q, H⟩
    ·refine W.gt' ((letter c a) ≤ 57) q ?_
     refine W.gt' ((letter c a) ≤ 57) q ?_
     refine W.opS (O.pk (decide ((letter c a) ≤ 57)) true (.bool true) (.tuple []) (decide_eq_true q)) ?_
     refine W.adv 12 ?_
     rcases H with ⟨e, H⟩ | ⟨e, H⟩
     ·refine W.gb false ((!(decide ((letter c a) ≤ 122))) == true) (congrArg (fun b => b == true) (congrArg (fun b => !b) (decide_eq_true e))) ?_
      refine W.gb false ((!(decide ((letter c a) ≤ 122))) == true) (congrArg (fun b => b == true) (congrArg (fun b => !b) (decide_eq_true e))) ?_
      refine W.gb false ((!(decide ((letter c a) ≤ 122))) == true) (congrArg (fun b => b == true) (congrArg (fun b => !b) (decide_eq_true e))) ?_
      refine W.adv 2 (W.gb false ((!(decide ((letter c a) ≤ 122))) == true) (congrArg (fun b => b == true) (congrArg (fun b => !b) (decide_eq_true e))) ?_)
      refine W.opS (O.pk (!(decide ((letter c a) ≤ 122))) false (.tuple []) (.bool false) (congrArg (fun b => !b) (decide_eq_true e))) ?_
      exact W.adv 12 (W.tl H)
     ·refine W.gb true ((!(decide ((letter c a) ≤ 122))) == true) (congrArg (fun b => b == true) (congrArg (fun b => !b) (decide_eq_false e))) ?_
      refine W.adv 1 (W.gb true ((!(decide ((letter c a) ≤ 122))) == true) (congrArg (fun b => b == true) (congrArg (fun b => !b) (decide_eq_false e))) ?_)
      refine W.adv 1 (W.gb true ((!(decide ((letter c a) ≤ 122))) == true) (congrArg (fun b => b == true) (congrArg (fun b => !b) (decide_eq_false e))) ?_)
      refine W.adv 1 ?_
      rcases H with ⟨r, H⟩ | ⟨r, H⟩
      ·refine W.gt' (a = 0) r ?_
       refine W.gt' (a = 0) r ?_
       refine W.gb true ((!(decide ((letter c a) ≤ 122))) == true) (congrArg (fun b => b == true) (congrArg (fun b => !b) (decide_eq_false e))) ?_
       refine W.opS (O.pk (decide (a = 0)) true (.bool true) (.tuple []) (decide_eq_true r)) ?_
       refine W.opS (O.pk (!(decide ((letter c a) ≤ 122))) true (.bool true) (.bool false) (congrArg (fun b => !b) (decide_eq_false e))) ?_
       exact W.adv 14 (W.fr (Ans.o (.bool false) (by rw [H])))
      ·refine W.gf' (a = 0) r ?_
       refine W.adv 1 (W.gf' (a = 0) r ?_)
       refine W.adv 1 (W.gb true ((!(decide ((letter c a) ≤ 122))) == true) (congrArg (fun b => b == true) (congrArg (fun b => !b) (decide_eq_false e))) ?_)
       refine W.opS (O.pk (decide (a = 0)) false (.bool true) (.bool false) (decide_eq_false r)) ?_
       refine W.opS (O.pk (!(decide ((letter c a) ≤ 122))) true (.bool false) (.bool false) (congrArg (fun b => !b) (decide_eq_false e))) ?_
       exact W.adv 12 (W.tl H)
    ·refine W.gf' ((letter c a) ≤ 57) q ?_
     refine W.adv 1 (W.gf' ((letter c a) ≤ 57) q ?_)
     refine W.adv 1 (W.opS (O.pk (decide ((letter c a) ≤ 57)) false (.bool true) (.bool (decide ((letter c a) = 45))) (decide_eq_false q)) ?_)
     refine W.adv 1 ?_
     rcases H with ⟨u, H⟩ | ⟨u, H⟩
     ·refine W.gt' ((letter c a) = 45) u ?_
      refine W.gt' ((letter c a) = 45) u ?_
      refine W.opS (O.pk (decide ((letter c a) = 45)) true (.bool true) (.tuple []) (decide_eq_true u)) ?_
      refine W.adv 8 ?_
      rcases H with ⟨f, H⟩ | ⟨f, H⟩
      ·refine W.gb false ((!(decide ((letter c a) ≤ 122))) == true) (congrArg (fun b => b == true) (congrArg (fun b => !b) (decide_eq_true f))) ?_
       refine W.gb false ((!(decide ((letter c a) ≤ 122))) == true) (congrArg (fun b => b == true) (congrArg (fun b => !b) (decide_eq_true f))) ?_
       refine W.gb false ((!(decide ((letter c a) ≤ 122))) == true) (congrArg (fun b => b == true) (congrArg (fun b => !b) (decide_eq_true f))) ?_
       refine W.adv 2 (W.gb false ((!(decide ((letter c a) ≤ 122))) == true) (congrArg (fun b => b == true) (congrArg (fun b => !b) (decide_eq_true f))) ?_)
       refine W.opS (O.pk (!(decide ((letter c a) ≤ 122))) false (.tuple []) (.bool false) (congrArg (fun b => !b) (decide_eq_true f))) ?_
       exact W.adv 12 (W.tl H)
      ·refine W.gb true ((!(decide ((letter c a) ≤ 122))) == true) (congrArg (fun b => b == true) (congrArg (fun b => !b) (decide_eq_false f))) ?_
       refine W.adv 1 (W.gb true ((!(decide ((letter c a) ≤ 122))) == true) (congrArg (fun b => b == true) (congrArg (fun b => !b) (decide_eq_false f))) ?_)
       refine W.adv 1 (W.gb true ((!(decide ((letter c a) ≤ 122))) == true) (congrArg (fun b => b == true) (congrArg (fun b => !b) (decide_eq_false f))) ?_)
       refine W.adv 1 ?_
       rcases H with ⟨v, H⟩ | ⟨v, H⟩
       ·refine W.gt' (a = 0) v ?_
        refine W.gt' (a = 0) v ?_
        refine W.gb true ((!(decide ((letter c a) ≤ 122))) == true) (congrArg (fun b => b == true) (congrArg (fun b => !b) (decide_eq_false f))) ?_
        refine W.opS (O.pk (decide (a = 0)) true (.bool true) (.tuple []) (decide_eq_true v)) ?_
        refine W.opS (O.pk (!(decide ((letter c a) ≤ 122))) true (.bool true) (.bool false) (congrArg (fun b => !b) (decide_eq_false f))) ?_
        exact W.adv 14 (W.fr (Ans.o (.bool false) (by rw [H])))
       ·refine W.gf' (a = 0) v ?_
        refine W.adv 1 (W.gf' (a = 0) v ?_)
        refine W.adv 1 (W.gb true ((!(decide ((letter c a) ≤ 122))) == true) (congrArg (fun b => b == true) (congrArg (fun b => !b) (decide_eq_false f))) ?_)
        refine W.opS (O.pk (decide (a = 0)) false (.bool true) (.bool false) (decide_eq_false v)) ?_
        refine W.opS (O.pk (!(decide ((letter c a) ≤ 122))) true (.bool false) (.bool false) (congrArg (fun b => !b) (decide_eq_false f))) ?_
        exact W.adv 12 (W.tl H)
     ·refine W.gf' ((letter c a) = 45) u ?_
      refine W.adv 1 (W.gf' ((letter c a) = 45) u ?_)
      refine W.adv 1 (W.opS (O.pk (decide ((letter c a) = 45)) false (.bool true) (.bool (decide ((letter c a) = 95))) (decide_eq_false u)) ?_)
      refine W.adv 8 ?_
      rcases H with ⟨g, H⟩ | ⟨g, H⟩
      ·refine W.gb false ((!(decide ((letter c a) ≤ 122))) == true) (congrArg (fun b => b == true) (congrArg (fun b => !b) (decide_eq_true g))) ?_
       refine W.gb false ((!(decide ((letter c a) ≤ 122))) == true) (congrArg (fun b => b == true) (congrArg (fun b => !b) (decide_eq_true g))) ?_
       refine W.gb false ((!(decide ((letter c a) ≤ 122))) == true) (congrArg (fun b => b == true) (congrArg (fun b => !b) (decide_eq_true g))) ?_
       refine W.adv 2 (W.gb false ((!(decide ((letter c a) ≤ 122))) == true) (congrArg (fun b => b == true) (congrArg (fun b => !b) (decide_eq_true g))) ?_)
       refine W.opS (O.pk (!(decide ((letter c a) ≤ 122))) false (.tuple []) (.bool false) (congrArg (fun b => !b) (decide_eq_true g))) ?_
       exact W.adv 12 (W.tl H)
      ·refine W.gb true ((!(decide ((letter c a) ≤ 122))) == true) (congrArg (fun b => b == true) (congrArg (fun b => !b) (decide_eq_false g))) ?_
       refine W.adv 1 (W.gb true ((!(decide ((letter c a) ≤ 122))) == true) (congrArg (fun b => b == true) (congrArg (fun b => !b) (decide_eq_false g))) ?_)
       refine W.adv 1 (W.gb true ((!(decide ((letter c a) ≤ 122))) == true) (congrArg (fun b => b == true) (congrArg (fun b => !b) (decide_eq_false g))) ?_)
       refine W.adv 1 ?_
       rcases H with ⟨aa, H⟩ | ⟨aa, H⟩
       ·refine W.gt' (a = 0) aa ?_
        refine W.gt' (a = 0) aa ?_
        refine W.gb true ((!(decide ((letter c a) ≤ 122))) == true) (congrArg (fun b => b == true) (congrArg (fun b => !b) (decide_eq_false g))) ?_
        refine W.opS (O.pk (decide (a = 0)) true (.bool true) (.tuple []) (decide_eq_true aa)) ?_
        refine W.opS (O.pk (!(decide ((letter c a) ≤ 122))) true (.bool true) (.bool false) (congrArg (fun b => !b) (decide_eq_false g))) ?_
        exact W.adv 14 (W.fr (Ans.o (.bool false) (by rw [H])))
       ·refine W.gf' (a = 0) aa ?_
        refine W.adv 1 (W.gf' (a = 0) aa ?_)
        refine W.adv 1 (W.gb true ((!(decide ((letter c a) ≤ 122))) == true) (congrArg (fun b => b == true) (congrArg (fun b => !b) (decide_eq_false g))) ?_)
        refine W.opS (O.pk (decide (a = 0)) false (.bool true) (.bool (!(decide ((letter c a) = 95)))) (decide_eq_false aa)) ?_
        refine W.opS (O.pk (!(decide ((letter c a) ≤ 122))) true (.bool (!(decide ((letter c a) = 95)))) (.bool false) (congrArg (fun b => !b) (decide_eq_false g))) ?_
        refine W.adv 2 ?_
        rcases H with ⟨au, H⟩ | ⟨au, H⟩
        ·refine W.cb false (!(decide ((letter c a) = 95))) (congrArg (fun b => !b) (decide_eq_true au)) ?_
         exact W.adv 9 (W.tl H)
        ·refine W.cb true (!(decide ((letter c a) = 95))) (congrArg (fun b => !b) (decide_eq_false au)) ?_
         exact W.adv 11 (W.fr (Ans.o (.bool false) (by rw [H])))
   ·refine W.gf (48 ≤ (letter c a)) p ?_
    refine W.gf (48 ≤ (letter c a)) p ?_
    refine W.opS (O.pk (decide (48 ≤ (letter c a))) false (.tuple []) (.bool false) (decide_eq_false p)) ?_
    refine W.adv 7 ?_
    rcases H with ⟨ab, H⟩ | ⟨ab, H⟩
    ·refine W.gt' ((letter c a) = 45) ab ?_
     refine W.gt' ((letter c a) = 45) ab ?_
     refine W.opS (O.pk (decide ((letter c a) = 45)) true (.bool true) (.tuple []) (decide_eq_true ab)) ?_
     refine W.adv 8 ?_
     rcases H with ⟨l, H⟩ | ⟨l, H⟩
     ·refine W.gb false ((!(decide ((letter c a) ≤ 122))) == true) (congrArg (fun b => b == true) (congrArg (fun b => !b) (decide_eq_true l))) ?_
      refine W.gb false ((!(decide ((letter c a) ≤ 122))) == true) (congrArg (fun b => b == true) (congrArg (fun b => !b) (decide_eq_true l))) ?_
      refine W.gb false ((!(decide ((letter c a) ≤ 122))) == true) (congrArg (fun b => b == true) (congrArg (fun b => !b) (decide_eq_true l))) ?_
      refine W.adv 2 (W.gb false ((!(decide ((letter c a) ≤ 122))) == true) (congrArg (fun b => b == true) (congrArg (fun b => !b) (decide_eq_true l))) ?_)
      refine W.opS (O.pk (!(decide ((letter c a) ≤ 122))) false (.tuple []) (.bool false) (congrArg (fun b => !b) (decide_eq_true l))) ?_
      exact W.adv 12 (W.tl H)
     ·refine W.gb true ((!(decide ((letter c a) ≤ 122))) == true) (congrArg (fun b => b == true) (congrArg (fun b => !b) (decide_eq_false l))) ?_
      refine W.adv 1 (W.gb true ((!(decide ((letter c a) ≤ 122))) == true) (congrArg (fun b => b == true) (congrArg (fun b => !b) (decide_eq_false l))) ?_)
      refine W.adv 1 (W.gb true ((!(decide ((letter c a) ≤ 122))) == true) (congrArg (fun b => b == true) (congrArg (fun b => !b) (decide_eq_false l))) ?_)
      refine W.adv 1 ?_
      rcases H with ⟨ac, H⟩ | ⟨ac, H⟩
      ·refine W.gt' (a = 0) ac ?_
       refine W.gt' (a = 0) ac ?_
       refine W.gb true ((!(decide ((letter c a) ≤ 122))) == true) (congrArg (fun b => b == true) (congrArg (fun b => !b) (decide_eq_false l))) ?_
       refine W.opS (O.pk (decide (a = 0)) true (.bool true) (.tuple []) (decide_eq_true ac)) ?_
       refine W.opS (O.pk (!(decide ((letter c a) ≤ 122))) true (.bool true) (.bool false) (congrArg (fun b => !b) (decide_eq_false l))) ?_
       exact W.adv 14 (W.fr (Ans.o (.bool false) (by rw [H])))
      ·refine W.gf' (a = 0) ac ?_
       refine W.adv 1 (W.gf' (a = 0) ac ?_)
       refine W.adv 1 (W.gb true ((!(decide ((letter c a) ≤ 122))) == true) (congrArg (fun b => b == true) (congrArg (fun b => !b) (decide_eq_false l))) ?_)
       refine W.opS (O.pk (decide (a = 0)) false (.bool true) (.bool false) (decide_eq_false ac)) ?_
       refine W.opS (O.pk (!(decide ((letter c a) ≤ 122))) true (.bool false) (.bool false) (congrArg (fun b => !b) (decide_eq_false l))) ?_
       exact W.adv 12 (W.tl H)
    ·refine W.gf' ((letter c a) = 45) ab ?_
     refine W.adv 1 (W.gf' ((letter c a) = 45) ab ?_)
     refine W.adv 1 (W.opS (O.pk (decide ((letter c a) = 45)) false (.bool true) (.bool (decide ((letter c a) = 95))) (decide_eq_false ab)) ?_)
     refine W.adv 8 ?_
     rcases H with ⟨m, H⟩ | ⟨m, H⟩
     ·refine W.gb false ((!(decide ((letter c a) ≤ 122))) == true) (congrArg (fun b => b == true) (congrArg (fun b => !b) (decide_eq_true m))) ?_
      refine W.gb false ((!(decide ((letter c a) ≤ 122))) == true) (congrArg (fun b => b == true) (congrArg (fun b => !b) (decide_eq_true m))) ?_
      refine W.gb false ((!(decide ((letter c a) ≤ 122))) == true) (congrArg (fun b => b == true) (congrArg (fun b => !b) (decide_eq_true m))) ?_
      refine W.adv 2 (W.gb false ((!(decide ((letter c a) ≤ 122))) == true) (congrArg (fun b => b == true) (congrArg (fun b => !b) (decide_eq_true m))) ?_)
      refine W.opS (O.pk (!(decide ((letter c a) ≤ 122))) false (.tuple []) (.bool false) (congrArg (fun b => !b) (decide_eq_true m))) ?_
      exact W.adv 12 (W.tl H)
     ·refine W.gb true ((!(decide ((letter c a) ≤ 122))) == true) (congrArg (fun b => b == true) (congrArg (fun b => !b) (decide_eq_false m))) ?_
      refine W.adv 1 (W.gb true ((!(decide ((letter c a) ≤ 122))) == true) (congrArg (fun b => b == true) (congrArg (fun b => !b) (decide_eq_false m))) ?_)
      refine W.adv 1 (W.gb true ((!(decide ((letter c a) ≤ 122))) == true) (congrArg (fun b => b == true) (congrArg (fun b => !b) (decide_eq_false m))) ?_)
      refine W.adv 1 ?_
      rcases H with ⟨ad, H⟩ | ⟨ad, H⟩
      ·refine W.gt' (a = 0) ad ?_
       refine W.gt' (a = 0) ad ?_
       refine W.gb true ((!(decide ((letter c a) ≤ 122))) == true) (congrArg (fun b => b == true) (congrArg (fun b => !b) (decide_eq_false m))) ?_
       refine W.opS (O.pk (decide (a = 0)) true (.bool true) (.tuple []) (decide_eq_true ad)) ?_
       refine W.opS (O.pk (!(decide ((letter c a) ≤ 122))) true (.bool true) (.bool false) (congrArg (fun b => !b) (decide_eq_false m))) ?_
       exact W.adv 14 (W.fr (Ans.o (.bool false) (by rw [H])))
      ·refine W.gf' (a = 0) ad ?_
       refine W.adv 1 (W.gf' (a = 0) ad ?_)
       refine W.adv 1 (W.gb true ((!(decide ((letter c a) ≤ 122))) == true) (congrArg (fun b => b == true) (congrArg (fun b => !b) (decide_eq_false m))) ?_)
       refine W.opS (O.pk (decide (a = 0)) false (.bool true) (.bool (!(decide ((letter c a) = 95)))) (decide_eq_false ad)) ?_
       refine W.opS (O.pk (!(decide ((letter c a) ≤ 122))) true (.bool (!(decide ((letter c a) = 95)))) (.bool false) (congrArg (fun b => !b) (decide_eq_false m))) ?_
       refine W.adv 2 ?_
       rcases H with ⟨av, H⟩ | ⟨av, H⟩
       ·refine W.cb false (!(decide ((letter c a) = 95))) (congrArg (fun b => !b) (decide_eq_true av)) ?_
        exact W.adv 9 (W.tl H)
       ·refine W.cb true (!(decide ((letter c a) = 95))) (congrArg (fun b => !b) (decide_eq_false av)) ?_
        exact W.adv 11 (W.fr (Ans.o (.bool false) (by rw [H])))
  ·refine W.gf (97 ≤ (letter c a)) n ?_
   refine W.gf (97 ≤ (letter c a)) n ?_
   refine W.opS (O.pk (decide (97 ≤ (letter c a))) false (.tuple []) (.bool false) (decide_eq_false n)) ?_
   refine W.adv 8 ?_
   rcases H with ⟨ae, H⟩ | ⟨ae, H⟩
   ·refine W.gt (48 ≤ (letter c a)) ae ?_
    refine W.adv 1 (W.gt (48 ≤ (letter c a)) ae ?_)
    refine W.adv 1 (W.opS (O.pk (decide (48 ≤ (letter c a))) true (.bool (decide ((letter c a) ≤ 57))) (.bool false) (decide_eq_true ae)) ?_)
    refine W.adv 1 ?_
    rcases H with ⟨af, H⟩ | ⟨af, H⟩
    ·refine W.gt' ((letter c a) ≤ 57) af ?_
     refine W.gt' ((letter c a) ≤ 57) af ?_
     refine W.opS (O.pk (decide ((letter c a) ≤ 57)) true (.bool true) (.tuple []) (decide_eq_true af)) ?_
     refine W.adv 18 ?_
     rcases H with ⟨ag, H⟩ | ⟨ag, H⟩
     ·refine W.gt' (a = 0) ag ?_
      refine W.gt' (a = 0) ag ?_
      refine W.adv 1 (W.opS (O.pk (decide (a = 0)) true (.bool true) (.tuple []) (decide_eq_true ag)) ?_)
      exact W.adv 15 (W.fr (Ans.o (.bool false) (by rw [H])))
     ·refine W.gf' (a = 0) ag ?_
      refine W.adv 1 (W.gf' (a = 0) ag ?_)
      refine W.adv 2 (W.opS (O.pk (decide (a = 0)) false (.bool true) (.bool false) (decide_eq_false ag)) ?_)
      exact W.adv 13 (W.tl H)
    ·refine W.gf' ((letter c a) ≤ 57) af ?_
     refine W.adv 1 (W.gf' ((letter c a) ≤ 57) af ?_)
     refine W.adv 1 (W.opS (O.pk (decide ((letter c a) ≤ 57)) false (.bool true) (.bool (decide ((letter c a) = 45))) (decide_eq_false af)) ?_)
     refine W.adv 1 ?_
     rcases H with ⟨ai, H⟩ | ⟨ai, H⟩
     ·refine W.gt' ((letter c a) = 45) ai ?_
      refine W.gt' ((letter c a) = 45) ai ?_
      refine W.opS (O.pk (decide ((letter c a) = 45)) true (.bool true) (.tuple []) (decide_eq_true ai)) ?_
      refine W.adv 14 ?_
      rcases H with ⟨ak, H⟩ | ⟨ak, H⟩
      ·refine W.gt' (a = 0) ak ?_
       refine W.gt' (a = 0) ak ?_
       refine W.adv 1 (W.opS (O.pk (decide (a = 0)) true (.bool true) (.tuple []) (decide_eq_true ak)) ?_)
       exact W.adv 15 (W.fr (Ans.o (.bool false) (by rw [H])))
      ·refine W.gf' (a = 0) ak ?_
       refine W.adv 1 (W.gf' (a = 0) ak ?_)
       refine W.adv 2 (W.opS (O.pk (decide (a = 0)) false (.bool true) (.bool false) (decide_eq_false ak)) ?_)
       exact W.adv 13 (W.tl H)
     ·refine W.gf' ((letter c a) = 45) ai ?_
      refine W.adv 1 (W.gf' ((letter c a) = 45) ai ?_)
      refine W.adv 1 (W.opS (O.pk (decide ((letter c a) = 45)) false (.bool true) (.bool (decide ((letter c a) = 95))) (decide_eq_false ai)) ?_)
      refine W.adv 14 ?_
      rcases H with ⟨al, H⟩ | ⟨al, H⟩
      ·refine W.gt' (a = 0) al ?_
       refine W.gt' (a = 0) al ?_
       refine W.adv 1 (W.opS (O.pk (decide (a = 0)) true (.bool true) (.tuple []) (decide_eq_true al)) ?_)
       exact W.adv 15 (W.fr (Ans.o (.bool false) (by rw [H])))
      ·refine W.gf' (a = 0) al ?_
       refine W.adv 1 (W.gf' (a = 0) al ?_)
       refine W.adv 2 (W.opS (O.pk (decide (a = 0)) false (.bool true) (.bool (!(decide ((letter c a) = 95)))) (decide_eq_false al)) ?_)
       refine W.adv 3 ?_
       rcases H with ⟨aw, H⟩ | ⟨aw, H⟩
       ·refine W.cb false (!(decide ((letter c a) = 95))) (congrArg (fun b => !b) (decide_eq_true aw)) ?_
        exact W.adv 9 (W.tl H)
       ·refine W.cb true (!(decide ((letter c a) = 95))) (congrArg (fun b => !b) (decide_eq_false aw)) ?_
        exact W.adv 11 (W.fr (Ans.o (.bool false) (by rw [H])))
   ·refine W.gf (48 ≤ (letter c a)) ae ?_
    refine W.gf (48 ≤ (letter c a)) ae ?_
    refine W.opS (O.pk (decide (48 ≤ (letter c a))) false (.tuple []) (.bool false) (decide_eq_false ae)) ?_
    refine W.adv 7 ?_
    rcases H with ⟨am, H⟩ | ⟨am, H⟩
    ·refine W.gt' ((letter c a) = 45) am ?_
     refine W.gt' ((letter c a) = 45) am ?_
     refine W.opS (O.pk (decide ((letter c a) = 45)) true (.bool true) (.tuple []) (decide_eq_true am)) ?_
     refine W.adv 14 ?_
     rcases H with ⟨an, H⟩ | ⟨an, H⟩
     ·refine W.gt' (a = 0) an ?_
      refine W.gt' (a = 0) an ?_
      refine W.adv 1 (W.opS (O.pk (decide (a = 0)) true (.bool true) (.tuple []) (decide_eq_true an)) ?_)
      exact W.adv 15 (W.fr (Ans.o (.bool false) (by rw [H])))
     ·refine W.gf' (a = 0) an ?_
      refine W.adv 1 (W.gf' (a = 0) an ?_)
      refine W.adv 2 (W.opS (O.pk (decide (a = 0)) false (.bool true) (.bool false) (decide_eq_false an)) ?_)
      exact W.adv 13 (W.tl H)
    ·refine W.gf' ((letter c a) = 45) am ?_
     refine W.adv 1 (W.gf' ((letter c a) = 45) am ?_)
     refine W.adv 1 (W.opS (O.pk (decide ((letter c a) = 45)) false (.bool true) (.bool (decide ((letter c a) = 95))) (decide_eq_false am)) ?_)
     refine W.adv 14 ?_
     rcases H with ⟨ap, H⟩ | ⟨ap, H⟩
     ·refine W.gt' (a = 0) ap ?_
      refine W.gt' (a = 0) ap ?_
      refine W.adv 1 (W.opS (O.pk (decide (a = 0)) true (.bool true) (.tuple []) (decide_eq_true ap)) ?_)
      exact W.adv 15 (W.fr (Ans.o (.bool false) (by rw [H])))
     ·refine W.gf' (a = 0) ap ?_
      refine W.adv 1 (W.gf' (a = 0) ap ?_)
      refine W.adv 2 (W.opS (O.pk (decide (a = 0)) false (.bool true) (.bool (!(decide ((letter c a) = 95)))) (decide_eq_false ap)) ?_)
      refine W.adv 3 ?_
      rcases H with ⟨ay, H⟩ | ⟨ay, H⟩
      ·refine W.cb false (!(decide ((letter c a) = 95))) (congrArg (fun b => !b) (decide_eq_true ay)) ?_
       exact W.adv 9 (W.tl H)
      ·refine W.cb true (!(decide ((letter c a) = 95))) (congrArg (fun b => !b) (decide_eq_false ay)) ?_
       exact W.adv 11 (W.fr (Ans.o (.bool false) (by rw [H])))
 ·refine W.cf (a < (c.size : Int)) aq ?_
  exact W.adv 14 (W.fr (Ans.o (.bool (decide (0 < (c.size : Int)))) (by rw [H])))
theorem ref17_Word_go (H : ref17_Word_l0 ar 0 z) : ref17_Word_R ar z := by
 refine W.ii Try.func34 ?_
 exact W.adv 12 (W.tl H)
end
end Go.Proofs.YtlpbmajbalenjaaA
namespace Go.Proofs.YtlpbmajbalenjaaA
open Go Go.Proofs
section
variable (c : ByteArray) (f a e : Int) (u : List T_ref19_Token) (ab : Nat) (z : List T_ref19_Token) (ac : Nat) (aa : List T_ref19_Token) (ad : Nat) (cq : ByteArray) (l : List T_ref19_Token) (p q : Int)
noncomputable def ref19_All_l0_s (j : Nat → D) (jb : Nat → Blk) (vs : Nat → Nat) : Cf := cfAt Try.f14 [1, 1, 1, 0, 0] ⟨([.str c] ++ (J j 1 4 ++ ([.nilS, .int .i64 f, .int .i64 a] ++ J j 8 133))), (J jb 0 141)⟩
def ref19_All_l0 : Prop := ∀ j jb vs, W C F 14 0 (ref19_All_l0_s c f a  j jb vs) (Ans C Try.f14 (.tuple [(.list 3 (l.map E_ref19_Token)), .int .i64 p, .int .i64 q]))
noncomputable def ref19_All_l1_s (j : Nat → D) (jb : Nat → Blk) (vs : Nat → Nat) : Cf := cfAt Try.f14 [1, 1, 1, 0, 0, 0, 1, 0, 1, 1, 0, 0, 1, 1, 1, 1, 1, 0, 0] ⟨([.str c] ++ (J j 1 4 ++ ([.nilS, .int .i64 f, .int .i64 a, j 8, .int .i64 e] ++ J j 10 131))), (J jb 0 141)⟩
def ref19_All_l1 : Prop := ∀ j jb vs, W C F 14 0 (ref19_All_l1_s c f a e  j jb vs) (Ans C Try.f14 (.tuple [(.list 3 (l.map E_ref19_Token)), .int .i64 p, .int .i64 q]))
noncomputable def ref19_All_l2_s (j : Nat → D) (jb : Nat → Blk) (vs : Nat → Nat) : Cf := cfAt Try.f14 [1, 1, 1, 0, 0] ⟨([.str c] ++ (J j 1 4 ++ ([(.sref 62 ((vs 62) + 1) 3 0 ab), .int .i64 f, .int .i64 a] ++ J j 8 133))), (J jb 0 62 ++ ([⟨((vs 62) + 1), false, .rows 3 (u.map E_ref19_Token)⟩] ++ J jb 63 78))⟩
def ref19_All_l2 : Prop := ∀ ab, ab = u.length → ∀ j jb vs, W C F 14 0 (ref19_All_l2_s c f a u ab j jb vs) (Ans C Try.f14 (.tuple [(.list 3 (l.map E_ref19_Token)), .int .i64 p, .int .i64 q]))
noncomputable def ref19_All_l3_s (j : Nat → D) (jb : Nat → Blk) (vs : Nat → Nat) : Cf := cfAt Try.f14 [1, 1, 1, 0, 0, 0, 1, 0, 1, 1, 0, 0, 1, 1, 1, 1, 1, 1, 1, 1, 1, 0, 0, 0] ⟨([.str c] ++ (J j 1 4 ++ ([.nilS, .int .i64 f, .int .i64 a, j 8, .int .i64 e] ++ J j 10 131))), (J jb 0 141)⟩
def ref19_All_l3 : Prop := ∀ j jb vs, W C F 14 0 (ref19_All_l3_s c f a e  j jb vs) (Ans C Try.f14 (.tuple [(.list 3 (l.map E_ref19_Token)), .int .i64 p, .int .i64 q]))
noncomputable def ref19_All_l4_s (j : Nat → D) (jb : Nat → Blk) (vs : Nat → Nat) : Cf := cfAt Try.f14 [1, 1, 1, 0, 0, 0, 1, 0, 1, 1, 0, 0, 1, 1, 1, 1, 1, 1, 1, 1, 1, 1, 1, 0, 0, 0] ⟨([.str c] ++ (J j 1 4 ++ ([.nilS, .int .i64 f, .int .i64 a, j 8, .int .i64 e] ++ J j 10 131))), (J jb 0 141)⟩
def ref19_All_l4 : Prop := ∀ j jb vs, W C F 14 0 (ref19_All_l4_s c f a e  j jb vs) (Ans C Try.f14 (.tuple [(.list 3 (l.map E_ref19_Token)), .int .i64 p, .int .i64 q]))
noncomputable def ref19_All_l5_s (j : Nat → D) (jb : Nat → Blk) (vs : Nat → Nat) : Cf := cfAt Try.f14 [1, 1, 1, 0, 0, 0, 1, 0, 1, 1, 0, 0, 1, 1, 1, 1, 1, 0, 0] ⟨([.str c] ++ (J j 1 4 ++ ([(.sref 62 ((vs 62) + 1) 3 0 ab), .int .i64 f, .int .i64 a, j 8, .int .i64 e] ++ J j 10 131))), (J jb 0 62 ++ ([⟨((vs 62) + 1), false, .rows 3 (u.map E_ref19_Token)⟩] ++ J jb 63 78))⟩
def ref19_All_l5 : Prop := ∀ ab, ab = u.length → ∀ j jb vs, W C F 14 0 (ref19_All_l5_s c f a e u ab j jb vs) (Ans C Try.f14 (.tuple [(.list 3 (l.map E_ref19_Token)), .int .i64 p, .int .i64 q]))
noncomputable def ref19_All_l6_s (j : Nat → D) (jb : Nat → Blk) (vs : Nat → Nat) : Cf := cfAt Try.f14 [1, 1, 1, 0, 0, 0, 1, 0, 1, 1, 0, 0, 1, 1, 1, 1, 1, 1, 1, 1, 1, 0, 0, 0] ⟨([.str c] ++ (J j 1 4 ++ ([(.sref 62 ((vs 62) + 1) 3 0 ab), .int .i64 f, .int .i64 a, j 8, .int .i64 e] ++ J j 10 131))), (J jb 0 62 ++ ([⟨((vs 62) + 1), false, .rows 3 (u.map E_ref19_Token)⟩] ++ J jb 63 78))⟩
def ref19_All_l6 : Prop := ∀ ab, ab = u.length → ∀ j jb vs, W C F 14 0 (ref19_All_l6_s c f a e u ab j jb vs) (Ans C Try.f14 (.tuple [(.list 3 (l.map E_ref19_Token)), .int .i64 p, .int .i64 q]))
noncomputable def ref19_All_l7_s (j : Nat → D) (jb : Nat → Blk) (vs : Nat → Nat) : Cf := cfAt Try.f14 [1, 1, 1, 0, 0, 0, 1, 0, 1, 1, 0, 0, 1, 1, 1, 1, 1, 1, 1, 1, 1, 1, 1, 0, 0, 0] ⟨([.str c] ++ (J j 1 4 ++ ([(.sref 62 ((vs 62) + 1) 3 0 ab), .int .i64 f, .int .i64 a, j 8, .int .i64 e] ++ J j 10 131))), (J jb 0 62 ++ ([⟨((vs 62) + 1), false, .rows 3 (u.map E_ref19_Token)⟩] ++ J jb 63 78))⟩
def ref19_All_l7 : Prop := ∀ ab, ab = u.length → ∀ j jb vs, W C F 14 0 (ref19_All_l7_s c f a e u ab j jb vs) (Ans C Try.f14 (.tuple [(.list 3 (l.map E_ref19_Token)), .int .i64 p, .int .i64 q]))
noncomputable def ref19_All_l8_s (j : Nat → D) (jb : Nat → Blk) (vs : Nat → Nat) : Cf := cfAt Try.f14 [1, 1, 1, 0, 0] ⟨([.str c] ++ (J j 1 4 ++ ([(.sref 96 ((vs 96) + 1) 3 0 ac), .int .i64 f, .int .i64 a] ++ J j 8 133))), (J jb 0 96 ++ ([⟨((vs 96) + 1), false, .rows 3 (z.map E_ref19_Token)⟩] ++ J jb 97 44))⟩
def ref19_All_l8 : Prop := ∀ ac, ac = z.length → ∀ j jb vs, W C F 14 0 (ref19_All_l8_s c f a z ac j jb vs) (Ans C Try.f14 (.tuple [(.list 3 (l.map E_ref19_Token)), .int .i64 p, .int .i64 q]))
noncomputable def ref19_All_l9_s (j : Nat → D) (jb : Nat → Blk) (vs : Nat → Nat) : Cf := cfAt Try.f14 [1, 1, 1, 0, 0] ⟨([.str c] ++ (J j 1 4 ++ ([(.sref 135 ((vs 135) + 1) 3 0 ad), .int .i64 f, .int .i64 a] ++ J j 8 133))), (J jb 0 135 ++ ([⟨((vs 135) + 1), false, .rows 3 (aa.map E_ref19_Token)⟩] ++ J jb 136 5))⟩
def ref19_All_l9 : Prop := ∀ ad, ad = aa.length → ∀ j jb vs, W C F 14 0 (ref19_All_l9_s c f a aa ad j jb vs) (Ans C Try.f14 (.tuple [(.list 3 (l.map E_ref19_Token)), .int .i64 p, .int .i64 q]))
noncomputable def ref19_All_l10_s (j : Nat → D) (jb : Nat → Blk) (vs : Nat → Nat) : Cf := cfAt Try.f14 [1, 1, 1, 0, 0, 0, 1, 0, 1, 1, 0, 0, 1, 1, 1, 1, 1, 0, 0] ⟨([.str c] ++ (J j 1 4 ++ ([(.sref 96 ((vs 96) + 1) 3 0 ac), .int .i64 f, .int .i64 a, j 8, .int .i64 e] ++ J j 10 131))), (J jb 0 96 ++ ([⟨((vs 96) + 1), false, .rows 3 (z.map E_ref19_Token)⟩] ++ J jb 97 44))⟩
def ref19_All_l10 : Prop := ∀ ac, ac = z.length → ∀ j jb vs, W C F 14 0 (ref19_All_l10_s c f a e z ac j jb vs) (Ans C Try.f14 (.tuple [(.list 3 (l.map E_ref19_Token)), .int .i64 p, .int .i64 q]))
noncomputable def ref19_All_l11_s (j : Nat → D) (jb : Nat → Blk) (vs : Nat → Nat) : Cf := cfAt Try.f14 [1, 1, 1, 0, 0, 0, 1, 0, 1, 1, 0, 0, 1, 1, 1, 1, 1, 1, 1, 1, 1, 0, 0, 0] ⟨([.str c] ++ (J j 1 4 ++ ([(.sref 96 ((vs 96) + 1) 3 0 ac), .int .i64 f, .int .i64 a, j 8, .int .i64 e] ++ J j 10 131))), (J jb 0 96 ++ ([⟨((vs 96) + 1), false, .rows 3 (z.map E_ref19_Token)⟩] ++ J jb 97 44))⟩
def ref19_All_l11 : Prop := ∀ ac, ac = z.length → ∀ j jb vs, W C F 14 0 (ref19_All_l11_s c f a e z ac j jb vs) (Ans C Try.f14 (.tuple [(.list 3 (l.map E_ref19_Token)), .int .i64 p, .int .i64 q]))
noncomputable def ref19_All_l12_s (j : Nat → D) (jb : Nat → Blk) (vs : Nat → Nat) : Cf := cfAt Try.f14 [1, 1, 1, 0, 0, 0, 1, 0, 1, 1, 0, 0, 1, 1, 1, 1, 1, 1, 1, 1, 1, 1, 1, 0, 0, 0] ⟨([.str c] ++ (J j 1 4 ++ ([(.sref 96 ((vs 96) + 1) 3 0 ac), .int .i64 f, .int .i64 a, j 8, .int .i64 e] ++ J j 10 131))), (J jb 0 96 ++ ([⟨((vs 96) + 1), false, .rows 3 (z.map E_ref19_Token)⟩] ++ J jb 97 44))⟩
def ref19_All_l12 : Prop := ∀ ac, ac = z.length → ∀ j jb vs, W C F 14 0 (ref19_All_l12_s c f a e z ac j jb vs) (Ans C Try.f14 (.tuple [(.list 3 (l.map E_ref19_Token)), .int .i64 p, .int .i64 q]))
noncomputable def ref19_All_l13_s (j : Nat → D) (jb : Nat → Blk) (vs : Nat → Nat) : Cf := cfAt Try.f14 [1, 1, 1, 0, 0, 0, 1, 0, 1, 1, 0, 0, 1, 1, 1, 1, 1, 0, 0] ⟨([.str c] ++ (J j 1 4 ++ ([(.sref 135 ((vs 135) + 1) 3 0 ad), .int .i64 f, .int .i64 a, j 8, .int .i64 e] ++ J j 10 131))), (J jb 0 135 ++ ([⟨((vs 135) + 1), false, .rows 3 (aa.map E_ref19_Token)⟩] ++ J jb 136 5))⟩
def ref19_All_l13 : Prop := ∀ ad, ad = aa.length → ∀ j jb vs, W C F 14 0 (ref19_All_l13_s c f a e aa ad j jb vs) (Ans C Try.f14 (.tuple [(.list 3 (l.map E_ref19_Token)), .int .i64 p, .int .i64 q]))
noncomputable def ref19_All_l14_s (j : Nat → D) (jb : Nat → Blk) (vs : Nat → Nat) : Cf := cfAt Try.f14 [1, 1, 1, 0, 0, 0, 1, 0, 1, 1, 0, 0, 1, 1, 1, 1, 1, 1, 1, 1, 1, 0, 0, 0] ⟨([.str c] ++ (J j 1 4 ++ ([(.sref 135 ((vs 135) + 1) 3 0 ad), .int .i64 f, .int .i64 a, j 8, .int .i64 e] ++ J j 10 131))), (J jb 0 135 ++ ([⟨((vs 135) + 1), false, .rows 3 (aa.map E_ref19_Token)⟩] ++ J jb 136 5))⟩
def ref19_All_l14 : Prop := ∀ ad, ad = aa.length → ∀ j jb vs, W C F 14 0 (ref19_All_l14_s c f a e aa ad j jb vs) (Ans C Try.f14 (.tuple [(.list 3 (l.map E_ref19_Token)), .int .i64 p, .int .i64 q]))
noncomputable def ref19_All_l15_s (j : Nat → D) (jb : Nat → Blk) (vs : Nat → Nat) : Cf := cfAt Try.f14 [1, 1, 1, 0, 0, 0, 1, 0, 1, 1, 0, 0, 1, 1, 1, 1, 1, 1, 1, 1, 1, 1, 1, 0, 0, 0] ⟨([.str c] ++ (J j 1 4 ++ ([(.sref 135 ((vs 135) + 1) 3 0 ad), .int .i64 f, .int .i64 a, j 8, .int .i64 e] ++ J j 10 131))), (J jb 0 135 ++ ([⟨((vs 135) + 1), false, .rows 3 (aa.map E_ref19_Token)⟩] ++ J jb 136 5))⟩
def ref19_All_l15 : Prop := ∀ ad, ad = aa.length → ∀ j jb vs, W C F 14 0 (ref19_All_l15_s c f a e aa ad j jb vs) (Ans C Try.f14 (.tuple [(.list 3 (l.map E_ref19_Token)), .int .i64 p, .int .i64 q]))
variable {c f a e u ab z ac aa ad cq l p q}
theorem ref19_All_l0_go (H : a < (c.size : Int) ∧ 0 ≤ a ∧ ((letter c a) = 10 ∧ ref19_All_l0 c (wi (f + 1)) (wi (a + 1)) l p q ∨ ¬ (letter c a) = 10 ∧ ((letter c a) = 32 ∧ ref19_All_l0 c f (wi (a + 1)) l p q ∨ ¬ (letter c a) = 32 ∧ ((letter c a) = 9 ∧ ref19_All_l0 c f (wi (a + 1)) l p q ∨ ¬ (letter c a) = 9 ∧ ((letter c a) = 35 ∧ ref19_All_l1 c f a 1 l p q ∨ ¬ (letter c a) = 35 ∧ ∃ a8, ref19_mark_R (letter c a) a8 ∧ ((a8 = true ∧ a ≤ (wi (a + 1)) ∧ (wi (a + 1)) ≤ (c.size : Int) ∧ (1 + 192) * (32 + 1) ≤ 70368744177664 ∧ ∃ bw, bw = [(3, (c.extract (a).toNat (wi (a + 1)).toNat), f)] ∧ ref19_All_l2 c f (wi (a + 1)) bw l p q) ∨ ¬ a8 = true ∧ (48 ≤ (letter c a) ∧ ((letter c a) ≤ 57 ∧ ref19_All_l3 c f a 1 l p q ∨ ¬ (letter c a) ≤ 57 ∧ (97 ≤ (letter c a) ∧ ((letter c a) ≤ 122 ∧ ref19_All_l4 c f a 1 l p q ∨ ¬ (letter c a) ≤ 122 ∧ l = ([] : List T_ref19_Token) ∧ p = f ∧ q = 21) ∨ ¬ 97 ≤ (letter c a) ∧ l = ([] : List T_ref19_Token) ∧ p = f ∧ q = 21)) ∨ ¬ 48 ≤ (letter c a) ∧ (97 ≤ (letter c a) ∧ ((letter c a) ≤ 122 ∧ ref19_All_l4 c f a 1 l p q ∨ ¬ (letter c a) ≤ 122 ∧ l = ([] : List T_ref19_Token) ∧ p = f ∧ q = 21) ∨ ¬ 97 ≤ (letter c a) ∧ l = ([] : List T_ref19_Token) ∧ p = f ∧ q = 21))))))) ∨ ¬ a < (c.size : Int) ∧ l = ([] : List T_ref19_Token) ∧ p = f ∧ q = 0) : ref19_All_l0 c f a l p q := by
 intro j jb vs
 refine W.adv 1 (W.adv 9 ?_)
 rcases H with ⟨cl, H⟩ | ⟨cl, H⟩
 ·refine W.ct (a < (c.size : Int)) cl ?_
  refine W.adv 7 ?_
  obtain ⟨d3, H⟩ := H
  refine W.opS (OpIs.ixT (k := .i64) (s := c) (i := a) (by kernel_rfl) d3 cl) ?_
  refine W.adv 17 ?_
  rcases H with ⟨cr, H⟩ | ⟨cr, H⟩
  ·refine W.ct ((letter c a) = 10) cr ?_
   exact W.adv 15 (W.tl H)
  ·refine W.cf ((letter c a) = 10) cr ?_
   refine W.adv 5 ?_
   rcases H with ⟨a9, H⟩ | ⟨a9, H⟩
   ·refine W.gt' ((letter c a) = 32) a9 ?_
    refine W.gt' ((letter c a) = 32) a9 ?_
    refine W.opS (O.pk (decide ((letter c a) = 32)) true (.bool true) (.tuple []) (decide_eq_true a9)) ?_
    exact W.adv 17 (W.tl H)
   ·refine W.gf' ((letter c a) = 32) a9 ?_
    refine W.adv 1 (W.gf' ((letter c a) = 32) a9 ?_)
    refine W.adv 1 (W.opS (O.pk (decide ((letter c a) = 32)) false (.bool true) (.bool (decide ((letter c a) = 9))) (decide_eq_false a9)) ?_)
    refine W.adv 3 ?_
    rcases H with ⟨cs, H⟩ | ⟨cs, H⟩
    ·refine W.ct ((letter c a) = 9) cs ?_
     exact W.adv 13 (W.tl H)
    ·refine W.cf ((letter c a) = 9) cs ?_
     refine W.adv 7 ?_
     rcases H with ⟨ct, H⟩ | ⟨ct, H⟩
     ·refine W.ct ((letter c a) = 35) ct ?_
      exact W.adv 1 (W.tl H)
     ·refine W.cf ((letter c a) = 35) ct ?_
      refine W.adv 3 ?_
      obtain ⟨a8, ew, H⟩ := H
      refine W.cl 32 [(.int .u8 (letter c a))] (.bool a8) ew ?_
      refine W.adv 3 ?_
      rcases H with ⟨cu, H⟩ | ⟨cu, H⟩
      ·refine W.cb true a8 cu ?_
       refine W.adv 6 ?_
       obtain ⟨ey, ez, H⟩ := H
       refine W.opS (OpIs.slT_lh (k' := .i64) (k'' := .i64) (s := c) (i := a) (j := (wi (a + 1))) (by kernel_rfl) d3 ey ez) ?_
       refine W.adv 3 ?_
       obtain ⟨e0, H⟩ := H
       obtain ⟨bw, d4, H⟩ := H
       have e1 : 1 = bw.length := by rw [d4] <;> rfl
       refine W.opH (O.apENil E_ref19_Token (.lit (.list 3 [(.agg [.int .i64 3, (.str (c.extract (a).toNat (wi (a + 1)).toNat)), .int .i64 f])])) 32 62 ((jb 62).ver) 3 [(3, (c.extract (a).toNat (wi (a + 1)).toNat), f)] d4 e0) ?_
       exact W.adv 12 (W.tl (H _ e1))
      ·refine W.cb false a8 (bfalse cu) ?_
       refine W.adv 5 ?_
       rcases H with ⟨ba, H⟩ | ⟨ba, H⟩
       ·refine W.gt (48 ≤ (letter c a)) ba ?_
        refine W.adv 1 (W.gt (48 ≤ (letter c a)) ba ?_)
        refine W.adv 1 (W.opS (O.pk (decide (48 ≤ (letter c a))) true (.bool (decide ((letter c a) ≤ 57))) (.bool false) (decide_eq_true ba)) ?_)
        refine W.adv 3 ?_
        rcases H with ⟨cv, H⟩ | ⟨cv, H⟩
        ·refine W.ct ((letter c a) ≤ 57) cv ?_
         exact W.adv 2 (W.tl H)
        ·refine W.cf ((letter c a) ≤ 57) cv ?_
         refine W.adv 5 ?_
         rcases H with ⟨bb, H⟩ | ⟨bb, H⟩
         ·refine W.gt (97 ≤ (letter c a)) bb ?_
          refine W.adv 1 (W.gt (97 ≤ (letter c a)) bb ?_)
          refine W.adv 1 (W.opS (O.pk (decide (97 ≤ (letter c a))) true (.bool (decide ((letter c a) ≤ 122))) (.bool false) (decide_eq_true bb)) ?_)
          refine W.adv 3 ?_
          rcases H with ⟨cw, H⟩ | ⟨cw, H⟩
          ·refine W.ct ((letter c a) ≤ 122) cw ?_
           exact W.adv 2 (W.tl H)
          ·refine W.cf ((letter c a) ≤ 122) cw ?_
           exact W.adv 15 (W.fr (Ans.q (.tuple [(.list 3 (([] : List T_ref19_Token).map E_ref19_Token)), .int .i64 f, .int .i64 21]) (by rw [H.1, H.2.1, H.2.2])))
         ·refine W.gf (97 ≤ (letter c a)) bb ?_
          refine W.gf (97 ≤ (letter c a)) bb ?_
          refine W.opS (O.pk (decide (97 ≤ (letter c a))) false (.tuple []) (.bool false) (decide_eq_false bb)) ?_
          exact W.adv 19 (W.fr (Ans.q (.tuple [(.list 3 (([] : List T_ref19_Token).map E_ref19_Token)), .int .i64 f, .int .i64 21]) (by rw [H.1, H.2.1, H.2.2])))
       ·refine W.gf (48 ≤ (letter c a)) ba ?_
        refine W.gf (48 ≤ (letter c a)) ba ?_
        refine W.opS (O.pk (decide (48 ≤ (letter c a))) false (.tuple []) (.bool false) (decide_eq_false ba)) ?_
        refine W.adv 9 ?_
        rcases H with ⟨bc, H⟩ | ⟨bc, H⟩
        ·refine W.gt (97 ≤ (letter c a)) bc ?_
         refine W.adv 1 (W.gt (97 ≤ (letter c a)) bc ?_)
         refine W.adv 1 (W.opS (O.pk (decide (97 ≤ (letter c a))) true (.bool (decide ((letter c a) ≤ 122))) (.bool false) (decide_eq_true bc)) ?_)
         refine W.adv 3 ?_
         rcases H with ⟨cy, H⟩ | ⟨cy, H⟩
         ·refine W.ct ((letter c a) ≤ 122) cy ?_
          exact W.adv 2 (W.tl H)
         ·refine W.cf ((letter c a) ≤ 122) cy ?_
          exact W.adv 15 (W.fr (Ans.q (.tuple [(.list 3 (([] : List T_ref19_Token).map E_ref19_Token)), .int .i64 f, .int .i64 21]) (by rw [H.1, H.2.1, H.2.2])))
        ·refine W.gf (97 ≤ (letter c a)) bc ?_
         refine W.gf (97 ≤ (letter c a)) bc ?_
         refine W.opS (O.pk (decide (97 ≤ (letter c a))) false (.tuple []) (.bool false) (decide_eq_false bc)) ?_
         exact W.adv 19 (W.fr (Ans.q (.tuple [(.list 3 (([] : List T_ref19_Token).map E_ref19_Token)), .int .i64 f, .int .i64 21]) (by rw [H.1, H.2.1, H.2.2])))
 ·refine W.cf (a < (c.size : Int)) cl ?_
  exact W.adv 15 (W.fr (Ans.q (.tuple [(.list 3 (([] : List T_ref19_Token).map E_ref19_Token)), .int .i64 f, .int .i64 0]) (by rw [H.1, H.2.1, H.2.2])))
theorem ref19_All_l1_go (H : (wi (a + e)) < (c.size : Int) ∧ 0 ≤ (wi (a + e)) ∧ ((letter c (wi (a + e))) = 10 ∧ ref19_All_l0 c f (wi (a + e)) l p q ∨ ¬ (letter c (wi (a + e))) = 10 ∧ ref19_All_l1 c f a (wi (e + 1)) l p q) ∨ ¬ (wi (a + e)) < (c.size : Int) ∧ ref19_All_l0 c f (wi (a + e)) l p q) : ref19_All_l1 c f a e l p q := by
 intro j jb vs
 refine W.adv 1 (W.adv 10 ?_)
 rcases H with ⟨an, H⟩ | ⟨an, H⟩
 ·refine W.gt ((wi (a + e)) < (c.size : Int)) an ?_
  refine W.adv 1 (W.gt ((wi (a + e)) < (c.size : Int)) an ?_)
  refine W.adv 1 (W.gt ((wi (a + e)) < (c.size : Int)) an ?_)
  refine W.adv 1 (W.gt ((wi (a + e)) < (c.size : Int)) an ?_)
  refine W.adv 1 (W.gt ((wi (a + e)) < (c.size : Int)) an ?_)
  obtain ⟨e2, H⟩ := H
  refine W.opS (OpIs.ixT (k := .i64) (s := c) (i := (wi (a + e))) (by kernel_rfl) e2 an) ?_
  refine W.gt ((wi (a + e)) < (c.size : Int)) an ?_
  refine W.adv 1 (W.opS (O.pk (decide ((wi (a + e)) < (c.size : Int))) true (.bool (!(decide ((letter c (wi (a + e))) = 10)))) (.bool false) (decide_eq_true an)) ?_)
  refine W.adv 2 ?_
  rcases H with ⟨cz, H⟩ | ⟨cz, H⟩
  ·refine W.cb false (!(decide ((letter c (wi (a + e))) = 10))) (congrArg (fun b => !b) (decide_eq_true cz)) ?_
   exact W.adv 14 (W.tl H)
  ·refine W.cb true (!(decide ((letter c (wi (a + e))) = 10))) (congrArg (fun b => !b) (decide_eq_false cz)) ?_
   exact W.adv 10 (W.tl H)
 ·refine W.gf ((wi (a + e)) < (c.size : Int)) an ?_
  refine W.gf ((wi (a + e)) < (c.size : Int)) an ?_
  refine W.gf ((wi (a + e)) < (c.size : Int)) an ?_
  refine W.gf ((wi (a + e)) < (c.size : Int)) an ?_
  refine W.gf ((wi (a + e)) < (c.size : Int)) an ?_
  refine W.gf ((wi (a + e)) < (c.size : Int)) an ?_
  refine W.opS (O.pk (decide ((wi (a + e)) < (c.size : Int))) false (.tuple []) (.bool false) (decide_eq_false an)) ?_
  exact W.adv 17 (W.tl H)
theorem ref19_All_l2_go (H : a < (c.size : Int) ∧ 0 ≤ a ∧ ((letter c a) = 10 ∧ ref19_All_l2 c (wi (f + 1)) (wi (a + 1)) u l p q ∨ ¬ (letter c a) = 10 ∧ ((letter c a) = 32 ∧ ref19_All_l2 c f (wi (a + 1)) u l p q ∨ ¬ (letter c a) = 32 ∧ ((letter c a) = 9 ∧ ref19_All_l2 c f (wi (a + 1)) u l p q ∨ ¬ (letter c a) = 9 ∧ ((letter c a) = 35 ∧ ref19_All_l5 c f a 1 u l p q ∨ ¬ (letter c a) = 35 ∧ ∃ bd, ref19_mark_R (letter c a) bd ∧ ((bd = true ∧ a ≤ (wi (a + 1)) ∧ (wi (a + 1)) ≤ (c.size : Int) ∧ (u.length + 1 + 192) * (32 + 1) ≤ 70368744177664 ∧ ∃ bz, bz = u ++ [(3, (c.extract (a).toNat (wi (a + 1)).toNat), f)] ∧ ref19_All_l2 c f (wi (a + 1)) bz l p q) ∨ ¬ bd = true ∧ (48 ≤ (letter c a) ∧ ((letter c a) ≤ 57 ∧ ref19_All_l6 c f a 1 u l p q ∨ ¬ (letter c a) ≤ 57 ∧ (97 ≤ (letter c a) ∧ ((letter c a) ≤ 122 ∧ ref19_All_l7 c f a 1 u l p q ∨ ¬ (letter c a) ≤ 122 ∧ l = ([] : List T_ref19_Token) ∧ p = f ∧ q = 21) ∨ ¬ 97 ≤ (letter c a) ∧ l = ([] : List T_ref19_Token) ∧ p = f ∧ q = 21)) ∨ ¬ 48 ≤ (letter c a) ∧ (97 ≤ (letter c a) ∧ ((letter c a) ≤ 122 ∧ ref19_All_l7 c f a 1 u l p q ∨ ¬ (letter c a) ≤ 122 ∧ l = ([] : List T_ref19_Token) ∧ p = f ∧ q = 21) ∨ ¬ 97 ≤ (letter c a) ∧ l = ([] : List T_ref19_Token) ∧ p = f ∧ q = 21))))))) ∨ ¬ a < (c.size : Int) ∧ l = u ∧ p = f ∧ q = 0) : ref19_All_l2 c f a u l p q := by
 intro ab ak j jb vs
 refine W.adv 1 (W.adv 9 ?_)
 rcases H with ⟨cm, H⟩ | ⟨cm, H⟩
 ·refine W.ct (a < (c.size : Int)) cm ?_
  refine W.adv 7 ?_
  obtain ⟨d5, H⟩ := H
  refine W.opS (OpIs.ixT (k := .i64) (s := c) (i := a) (by kernel_rfl) d5 cm) ?_
  refine W.adv 17 ?_
  rcases H with ⟨c0, H⟩ | ⟨c0, H⟩
  ·refine W.ct ((letter c a) = 10) c0 ?_
   exact W.adv 15 (W.tl (H _ ak))
  ·refine W.cf ((letter c a) = 10) c0 ?_
   refine W.adv 5 ?_
   rcases H with ⟨be, H⟩ | ⟨be, H⟩
   ·refine W.gt' ((letter c a) = 32) be ?_
    refine W.gt' ((letter c a) = 32) be ?_
    refine W.opS (O.pk (decide ((letter c a) = 32)) true (.bool true) (.tuple []) (decide_eq_true be)) ?_
    exact W.adv 17 (W.tl (H _ ak))
   ·refine W.gf' ((letter c a) = 32) be ?_
    refine W.adv 1 (W.gf' ((letter c a) = 32) be ?_)
    refine W.adv 1 (W.opS (O.pk (decide ((letter c a) = 32)) false (.bool true) (.bool (decide ((letter c a) = 9))) (decide_eq_false be)) ?_)
    refine W.adv 3 ?_
    rcases H with ⟨c1, H⟩ | ⟨c1, H⟩
    ·refine W.ct ((letter c a) = 9) c1 ?_
     exact W.adv 13 (W.tl (H _ ak))
    ·refine W.cf ((letter c a) = 9) c1 ?_
     refine W.adv 7 ?_
     rcases H with ⟨c2, H⟩ | ⟨c2, H⟩
     ·refine W.ct ((letter c a) = 35) c2 ?_
      exact W.adv 1 (W.tl (H _ ak))
     ·refine W.cf ((letter c a) = 35) c2 ?_
      refine W.adv 3 ?_
      obtain ⟨bd, e3, H⟩ := H
      refine W.cl 32 [(.int .u8 (letter c a))] (.bool bd) e3 ?_
      refine W.adv 3 ?_
      rcases H with ⟨c3, H⟩ | ⟨c3, H⟩
      ·refine W.cb true bd c3 ?_
       refine W.adv 6 ?_
       obtain ⟨e4, e5, H⟩ := H
       refine W.opS (OpIs.slT_lh (k' := .i64) (k'' := .i64) (s := c) (i := a) (j := (wi (a + 1))) (by kernel_rfl) d5 e4 e5) ?_
       refine W.adv 3 ?_
       obtain ⟨e6, H⟩ := H
       obtain ⟨bz, d6, H⟩ := H
       have e7 : (u.length + 1) = bz.length := by rw [d6, List.length_append] <;> rfl
       refine W.opK (O.apERow E_ref19_Token (.lit (.list 3 [(.agg [.int .i64 3, (.str (c.extract (a).toNat (wi (a + 1)).toNat)), .int .i64 f])])) 32 62 ((vs 62) + 1) 62 ((vs 62) + 1) ab 3 u [(3, (c.extract (a).toNat (wi (a + 1)).toNat), f)] d6 ak e6) ?_
       exact W.adv 12 (W.tl (H _ e7))
      ·refine W.cb false bd (bfalse c3) ?_
       refine W.adv 5 ?_
       rcases H with ⟨bf, H⟩ | ⟨bf, H⟩
       ·refine W.gt (48 ≤ (letter c a)) bf ?_
        refine W.adv 1 (W.gt (48 ≤ (letter c a)) bf ?_)
        refine W.adv 1 (W.opS (O.pk (decide (48 ≤ (letter c a))) true (.bool (decide ((letter c a) ≤ 57))) (.bool false) (decide_eq_true bf)) ?_)
        refine W.adv 3 ?_
        rcases H with ⟨c4, H⟩ | ⟨c4, H⟩
        ·refine W.ct ((letter c a) ≤ 57) c4 ?_
         exact W.adv 2 (W.tl (H _ ak))
        ·refine W.cf ((letter c a) ≤ 57) c4 ?_
         refine W.adv 5 ?_
         rcases H with ⟨bg, H⟩ | ⟨bg, H⟩
         ·refine W.gt (97 ≤ (letter c a)) bg ?_
          refine W.adv 1 (W.gt (97 ≤ (letter c a)) bg ?_)
          refine W.adv 1 (W.opS (O.pk (decide (97 ≤ (letter c a))) true (.bool (decide ((letter c a) ≤ 122))) (.bool false) (decide_eq_true bg)) ?_)
          refine W.adv 3 ?_
          rcases H with ⟨c5, H⟩ | ⟨c5, H⟩
          ·refine W.ct ((letter c a) ≤ 122) c5 ?_
           exact W.adv 2 (W.tl (H _ ak))
          ·refine W.cf ((letter c a) ≤ 122) c5 ?_
           exact W.adv 15 (W.fr (Ans.q (.tuple [(.list 3 (([] : List T_ref19_Token).map E_ref19_Token)), .int .i64 f, .int .i64 21]) (by rw [H.1, H.2.1, H.2.2])))
         ·refine W.gf (97 ≤ (letter c a)) bg ?_
          refine W.gf (97 ≤ (letter c a)) bg ?_
          refine W.opS (O.pk (decide (97 ≤ (letter c a))) false (.tuple []) (.bool false) (decide_eq_false bg)) ?_
          exact W.adv 19 (W.fr (Ans.q (.tuple [(.list 3 (([] : List T_ref19_Token).map E_ref19_Token)), .int .i64 f, .int .i64 21]) (by rw [H.1, H.2.1, H.2.2])))
       ·refine W.gf (48 ≤ (letter c a)) bf ?_
        refine W.gf (48 ≤ (letter c a)) bf ?_
        refine W.opS (O.pk (decide (48 ≤ (letter c a))) false (.tuple []) (.bool false) (decide_eq_false bf)) ?_
        refine W.adv 9 ?_
        rcases H with ⟨bi, H⟩ | ⟨bi, H⟩
        ·refine W.gt (97 ≤ (letter c a)) bi ?_
         refine W.adv 1 (W.gt (97 ≤ (letter c a)) bi ?_)
         refine W.adv 1 (W.opS (O.pk (decide (97 ≤ (letter c a))) true (.bool (decide ((letter c a) ≤ 122))) (.bool false) (decide_eq_true bi)) ?_)
         refine W.adv 3 ?_
         rcases H with ⟨c6, H⟩ | ⟨c6, H⟩
         ·refine W.ct ((letter c a) ≤ 122) c6 ?_
          exact W.adv 2 (W.tl (H _ ak))
         ·refine W.cf ((letter c a) ≤ 122) c6 ?_
          exact W.adv 15 (W.fr (Ans.q (.tuple [(.list 3 (([] : List T_ref19_Token).map E_ref19_Token)), .int .i64 f, .int .i64 21]) (by rw [H.1, H.2.1, H.2.2])))
        ·refine W.gf (97 ≤ (letter c a)) bi ?_
         refine W.gf (97 ≤ (letter c a)) bi ?_
         refine W.opS (O.pk (decide (97 ≤ (letter c a))) false (.tuple []) (.bool false) (decide_eq_false bi)) ?_
         exact W.adv 19 (W.fr (Ans.q (.tuple [(.list 3 (([] : List T_ref19_Token).map E_ref19_Token)), .int .i64 f, .int .i64 21]) (by rw [H.1, H.2.1, H.2.2])))
 ·refine W.cf (a < (c.size : Int)) cm ?_
  exact W.adv 15 (W.fr (Ans.of (d := (.tuple [(.sref 62 ((vs 62) + 1) 3 0 ab), .int .i64 f, .int .i64 0])) (d' := (.tuple [(.list 3 (u.map E_ref19_Token)), .int .i64 f, .int .i64 0])) (e' := (.tuple [(.list 3 (u.map E_ref19_Token)), .int .i64 f, .int .i64 0])) (by kernel_rfl) ((congrArg (fun h => reify h DEPTH (.tuple [(.sref 62 ((vs 62) + 1) 3 0 ab), .int .i64 f, .int .i64 0])) (tidy_ver (b := 62) (v := (vs 62)) (fz := false) (y := .rows 3 (u.map E_ref19_Token)) (by kernel_rfl))).trans (rf_tup (rf_cons (rf_fullE (enc := E_ref19_Token) E_ref19_Token_t (b := 62) (v := ((vs 62) + 1)) (w := ((vs 62) + 1)) (fz := false) (xs := u) (by kernel_rfl) rfl ak) (rf_cons (by kernel_rfl) (rf_cons (by kernel_rfl) rf_nil))))) (by kernel_rfl) (by rw [H.1, H.2.1, H.2.2])))
theorem ref19_All_l3_go (H : ((wi (a + e)) < (c.size : Int) ∧ 0 ≤ (wi (a + e)) ∧ ∃ az, ref19_figure_R (letter c (wi (a + e))) az ∧ (az = true ∧ ref19_All_l3 c f a (wi (e + 1)) l p q ∨ ¬ az = true ∧ 0 ≤ a ∧ a ≤ (wi (a + e)) ∧ (wi (a + e)) ≤ (c.size : Int) ∧ (1 + 192) * (32 + 1) ≤ 70368744177664 ∧ ∃ b0, b0 = [(2, (c.extract (a).toNat (wi (a + e)).toNat), f)] ∧ ref19_All_l8 c f (wi (a + e)) b0 l p q)) ∨ ¬ (wi (a + e)) < (c.size : Int) ∧ 0 ≤ a ∧ a ≤ (wi (a + e)) ∧ (wi (a + e)) ≤ (c.size : Int) ∧ (1 + 192) * (32 + 1) ≤ 70368744177664 ∧ ∃ b1, b1 = [(2, (c.extract (a).toNat (wi (a + e)).toNat), f)] ∧ ref19_All_l8 c f (wi (a + e)) b1 l p q) : ref19_All_l3 c f a e l p q := by
 intro j jb vs
 refine W.adv 1 (W.adv 10 ?_)
 rcases H with ⟨ap, H⟩ | ⟨ap, H⟩
 ·refine W.gt ((wi (a + e)) < (c.size : Int)) ap ?_
  refine W.adv 1 (W.gt ((wi (a + e)) < (c.size : Int)) ap ?_)
  refine W.adv 1 (W.gt ((wi (a + e)) < (c.size : Int)) ap ?_)
  refine W.adv 1 (W.gt ((wi (a + e)) < (c.size : Int)) ap ?_)
  refine W.adv 1 (W.gt ((wi (a + e)) < (c.size : Int)) ap ?_)
  obtain ⟨e8, H⟩ := H
  refine W.opS (OpIs.ixT (k := .i64) (s := c) (i := (wi (a + e))) (by kernel_rfl) e8 ap) ?_
  refine W.gt ((wi (a + e)) < (c.size : Int)) ap ?_
  obtain ⟨az, e9, H⟩ := H
  refine W.cl 33 [(.int .u8 (letter c (wi (a + e))))] (.bool az) e9 ?_
  refine W.opS (O.pk (decide ((wi (a + e)) < (c.size : Int))) true (.bool az) (.bool false) (decide_eq_true ap)) ?_
  refine W.adv 2 ?_
  rcases H with ⟨c8, H⟩ | ⟨c8, H⟩
  ·refine W.cb true az c8 ?_
   exact W.adv 10 (W.tl H)
  ·refine W.cb false az (bfalse c8) ?_
   refine W.adv 12 ?_
   obtain ⟨fa, fb, fc, H⟩ := H
   refine W.opS (OpIs.slT_lh (k' := .i64) (k'' := .i64) (s := c) (i := a) (j := (wi (a + e))) (by kernel_rfl) fa fb fc) ?_
   refine W.adv 3 ?_
   obtain ⟨fd, H⟩ := H
   obtain ⟨b0, d7, H⟩ := H
   have fe : 1 = b0.length := by rw [d7] <;> rfl
   refine W.opH (O.apENil E_ref19_Token (.lit (.list 3 [(.agg [.int .i64 2, (.str (c.extract (a).toNat (wi (a + e)).toNat)), .int .i64 f])])) 32 96 ((jb 96).ver) 3 [(2, (c.extract (a).toNat (wi (a + e)).toNat), f)] d7 fd) ?_
   exact W.adv 12 (W.tl (H _ fe))
 ·refine W.gf ((wi (a + e)) < (c.size : Int)) ap ?_
  refine W.gf ((wi (a + e)) < (c.size : Int)) ap ?_
  refine W.gf ((wi (a + e)) < (c.size : Int)) ap ?_
  refine W.gf ((wi (a + e)) < (c.size : Int)) ap ?_
  refine W.gf ((wi (a + e)) < (c.size : Int)) ap ?_
  refine W.gf ((wi (a + e)) < (c.size : Int)) ap ?_
  refine W.opS (O.pk (decide ((wi (a + e)) < (c.size : Int))) false (.tuple []) (.bool false) (decide_eq_false ap)) ?_
  refine W.adv 15 ?_
  obtain ⟨fg, fi, fk, H⟩ := H
  refine W.opS (OpIs.slT_lh (k' := .i64) (k'' := .i64) (s := c) (i := a) (j := (wi (a + e))) (by kernel_rfl) fg fi fk) ?_
  refine W.adv 3 ?_
  obtain ⟨fl, H⟩ := H
  obtain ⟨b1, d8, H⟩ := H
  have fm : 1 = b1.length := by rw [d8] <;> rfl
  refine W.opH (O.apENil E_ref19_Token (.lit (.list 3 [(.agg [.int .i64 2, (.str (c.extract (a).toNat (wi (a + e)).toNat)), .int .i64 f])])) 32 96 ((jb 96).ver) 3 [(2, (c.extract (a).toNat (wi (a + e)).toNat), f)] d8 fl) ?_
  exact W.adv 12 (W.tl (H _ fm))
theorem ref19_All_l4_go (H : ((wi (a + e)) < (c.size : Int) ∧ 0 ≤ (wi (a + e)) ∧ (wi (a + e)) ≤ (wi ((wi (a + e)) + 1)) ∧ (wi ((wi (a + e)) + 1)) ≤ (c.size : Int) ∧ (⟨#[97]⟩ : ByteArray).size + (c.extract (wi (a + e)).toNat (wi ((wi (a + e)) + 1)).toNat).size ≤ 9223372036854775807 ∧ ∃ a1, ref17_Word_R ((⟨#[97]⟩ : ByteArray) ++ (c.extract (wi (a + e)).toNat (wi ((wi (a + e)) + 1)).toNat)) a1 ∧ (a1 = true ∧ ref19_All_l4 c f a (wi (e + 1)) l p q ∨ ¬ a1 = true ∧ 0 ≤ a ∧ a ≤ (wi (a + e)) ∧ (wi (a + e)) ≤ (c.size : Int) ∧ (1 + 192) * (32 + 1) ≤ 70368744177664 ∧ ∃ b2, b2 = [(1, (c.extract (a).toNat (wi (a + e)).toNat), f)] ∧ ref19_All_l9 c f (wi (a + e)) b2 l p q)) ∨ ¬ (wi (a + e)) < (c.size : Int) ∧ 0 ≤ a ∧ a ≤ (wi (a + e)) ∧ (wi (a + e)) ≤ (c.size : Int) ∧ (1 + 192) * (32 + 1) ≤ 70368744177664 ∧ ∃ b3, b3 = [(1, (c.extract (a).toNat (wi (a + e)).toNat), f)] ∧ ref19_All_l9 c f (wi (a + e)) b3 l p q) : ref19_All_l4 c f a e l p q := by
 intro j jb vs
 refine W.adv 1 (W.adv 10 ?_)
 rcases H with ⟨ae, H⟩ | ⟨ae, H⟩
 ·refine W.gt ((wi (a + e)) < (c.size : Int)) ae ?_
  refine W.adv 1 (W.gt ((wi (a + e)) < (c.size : Int)) ae ?_)
  refine W.adv 1 (W.gt ((wi (a + e)) < (c.size : Int)) ae ?_)
  refine W.adv 1 (W.gt ((wi (a + e)) < (c.size : Int)) ae ?_)
  refine W.adv 1 (W.gt ((wi (a + e)) < (c.size : Int)) ae ?_)
  refine W.adv 1 (W.gt ((wi (a + e)) < (c.size : Int)) ae ?_)
  refine W.adv 1 (W.gt ((wi (a + e)) < (c.size : Int)) ae ?_)
  refine W.adv 1 (W.gt ((wi (a + e)) < (c.size : Int)) ae ?_)
  refine W.adv 1 (W.gt ((wi (a + e)) < (c.size : Int)) ae ?_)
  obtain ⟨fp, fq, fr, H⟩ := H
  refine W.opS (OpIs.slT_lh (k' := .i64) (k'' := .i64) (s := c) (i := (wi (a + e))) (j := (wi ((wi (a + e)) + 1))) (by kernel_rfl) fp fq fr) ?_
  refine W.gt ((wi (a + e)) < (c.size : Int)) ae ?_
  obtain ⟨fs, H⟩ := H
  refine W.opS (OpIs.bn (op := .add) (x := (.str ⟨#[97]⟩)) (y := (.str (c.extract (wi (a + e)).toNat (wi ((wi (a + e)) + 1)).toNat))) (by kernel_rfl) (addS fs)) ?_
  refine W.gt ((wi (a + e)) < (c.size : Int)) ae ?_
  obtain ⟨a1, ft, H⟩ := H
  refine W.cl 34 [(.str ((⟨#[97]⟩ : ByteArray) ++ (c.extract (wi (a + e)).toNat (wi ((wi (a + e)) + 1)).toNat)))] (.bool a1) ft ?_
  refine W.opS (O.pk (decide ((wi (a + e)) < (c.size : Int))) true (.bool a1) (.bool false) (decide_eq_true ae)) ?_
  refine W.adv 2 ?_
  rcases H with ⟨c9, H⟩ | ⟨c9, H⟩
  ·refine W.cb true a1 c9 ?_
   exact W.adv 10 (W.tl H)
  ·refine W.cb false a1 (bfalse c9) ?_
   refine W.adv 12 ?_
   obtain ⟨fu, fv, fw, H⟩ := H
   refine W.opS (OpIs.slT_lh (k' := .i64) (k'' := .i64) (s := c) (i := a) (j := (wi (a + e))) (by kernel_rfl) fu fv fw) ?_
   refine W.adv 3 ?_
   obtain ⟨fy, H⟩ := H
   obtain ⟨b2, d9, H⟩ := H
   have f0 : 1 = b2.length := by rw [d9] <;> rfl
   refine W.opH (O.apENil E_ref19_Token (.lit (.list 3 [(.agg [.int .i64 1, (.str (c.extract (a).toNat (wi (a + e)).toNat)), .int .i64 f])])) 32 135 ((jb 135).ver) 3 [(1, (c.extract (a).toNat (wi (a + e)).toNat), f)] d9 fy) ?_
   exact W.adv 12 (W.tl (H _ f0))
 ·refine W.gf ((wi (a + e)) < (c.size : Int)) ae ?_
  refine W.gf ((wi (a + e)) < (c.size : Int)) ae ?_
  refine W.gf ((wi (a + e)) < (c.size : Int)) ae ?_
  refine W.gf ((wi (a + e)) < (c.size : Int)) ae ?_
  refine W.gf ((wi (a + e)) < (c.size : Int)) ae ?_
  refine W.gf ((wi (a + e)) < (c.size : Int)) ae ?_
  refine W.gf ((wi (a + e)) < (c.size : Int)) ae ?_
  refine W.gf ((wi (a + e)) < (c.size : Int)) ae ?_
  refine W.gf ((wi (a + e)) < (c.size : Int)) ae ?_
  refine W.gf ((wi (a + e)) < (c.size : Int)) ae ?_
  refine W.gf ((wi (a + e)) < (c.size : Int)) ae ?_
  refine W.opS (O.pk (decide ((wi (a + e)) < (c.size : Int))) false (.tuple []) (.bool false) (decide_eq_false ae)) ?_
  refine W.adv 15 ?_
  obtain ⟨f1, f2, f3, H⟩ := H
  refine W.opS (OpIs.slT_lh (k' := .i64) (k'' := .i64) (s := c) (i := a) (j := (wi (a + e))) (by kernel_rfl) f1 f2 f3) ?_
  refine W.adv 3 ?_
  obtain ⟨f4, H⟩ := H
  obtain ⟨b3, ea, H⟩ := H
  have f5 : 1 = b3.length := by rw [ea] <;> rfl
  refine W.opH (O.apENil E_ref19_Token (.lit (.list 3 [(.agg [.int .i64 1, (.str (c.extract (a).toNat (wi (a + e)).toNat)), .int .i64 f])])) 32 135 ((jb 135).ver) 3 [(1, (c.extract (a).toNat (wi (a + e)).toNat), f)] ea f4) ?_
  exact W.adv 12 (W.tl (H _ f5))
theorem ref19_All_l5_go (H : (wi (a + e)) < (c.size : Int) ∧ 0 ≤ (wi (a + e)) ∧ ((letter c (wi (a + e))) = 10 ∧ ref19_All_l2 c f (wi (a + e)) u l p q ∨ ¬ (letter c (wi (a + e))) = 10 ∧ ref19_All_l5 c f a (wi (e + 1)) u l p q) ∨ ¬ (wi (a + e)) < (c.size : Int) ∧ ref19_All_l2 c f (wi (a + e)) u l p q) : ref19_All_l5 c f a e u l p q := by
 intro ab ak j jb vs
 refine W.adv 1 (W.adv 10 ?_)
 rcases H with ⟨aq, H⟩ | ⟨aq, H⟩
 ·refine W.gt ((wi (a + e)) < (c.size : Int)) aq ?_
  refine W.adv 1 (W.gt ((wi (a + e)) < (c.size : Int)) aq ?_)
  refine W.adv 1 (W.gt ((wi (a + e)) < (c.size : Int)) aq ?_)
  refine W.adv 1 (W.gt ((wi (a + e)) < (c.size : Int)) aq ?_)
  refine W.adv 1 (W.gt ((wi (a + e)) < (c.size : Int)) aq ?_)
  obtain ⟨f6, H⟩ := H
  refine W.opS (OpIs.ixT (k := .i64) (s := c) (i := (wi (a + e))) (by kernel_rfl) f6 aq) ?_
  refine W.gt ((wi (a + e)) < (c.size : Int)) aq ?_
  refine W.adv 1 (W.opS (O.pk (decide ((wi (a + e)) < (c.size : Int))) true (.bool (!(decide ((letter c (wi (a + e))) = 10)))) (.bool false) (decide_eq_true aq)) ?_)
  refine W.adv 2 ?_
  rcases H with ⟨da, H⟩ | ⟨da, H⟩
  ·refine W.cb false (!(decide ((letter c (wi (a + e))) = 10))) (congrArg (fun b => !b) (decide_eq_true da)) ?_
   exact W.adv 14 (W.tl (H _ ak))
  ·refine W.cb true (!(decide ((letter c (wi (a + e))) = 10))) (congrArg (fun b => !b) (decide_eq_false da)) ?_
   exact W.adv 10 (W.tl (H _ ak))
 ·refine W.gf ((wi (a + e)) < (c.size : Int)) aq ?_
  refine W.gf ((wi (a + e)) < (c.size : Int)) aq ?_
  refine W.gf ((wi (a + e)) < (c.size : Int)) aq ?_
  refine W.gf ((wi (a + e)) < (c.size : Int)) aq ?_
  refine W.gf ((wi (a + e)) < (c.size : Int)) aq ?_
  refine W.gf ((wi (a + e)) < (c.size : Int)) aq ?_
  refine W.opS (O.pk (decide ((wi (a + e)) < (c.size : Int))) false (.tuple []) (.bool false) (decide_eq_false aq)) ?_
  exact W.adv 17 (W.tl (H _ ak))
theorem ref19_All_l6_go (H : ((wi (a + e)) < (c.size : Int) ∧ 0 ≤ (wi (a + e)) ∧ ∃ a2, ref19_figure_R (letter c (wi (a + e))) a2 ∧ (a2 = true ∧ ref19_All_l6 c f a (wi (e + 1)) u l p q ∨ ¬ a2 = true ∧ 0 ≤ a ∧ a ≤ (wi (a + e)) ∧ (wi (a + e)) ≤ (c.size : Int) ∧ (u.length + 1 + 192) * (32 + 1) ≤ 70368744177664 ∧ ∃ b4, b4 = u ++ [(2, (c.extract (a).toNat (wi (a + e)).toNat), f)] ∧ ref19_All_l8 c f (wi (a + e)) b4 l p q)) ∨ ¬ (wi (a + e)) < (c.size : Int) ∧ 0 ≤ a ∧ a ≤ (wi (a + e)) ∧ (wi (a + e)) ≤ (c.size : Int) ∧ (u.length + 1 + 192) * (32 + 1) ≤ 70368744177664 ∧ ∃ b5, b5 = u ++ [(2, (c.extract (a).toNat (wi (a + e)).toNat), f)] ∧ ref19_All_l8 c f (wi (a + e)) b5 l p q) : ref19_All_l6 c f a e u l p q := by
 intro ab ak j jb vs
 refine W.adv 1 (W.adv 10 ?_)
 rcases H with ⟨ar, H⟩ | ⟨ar, H⟩
 ·refine W.gt ((wi (a + e)) < (c.size : Int)) ar ?_
  refine W.adv 1 (W.gt ((wi (a + e)) < (c.size : Int)) ar ?_)
  refine W.adv 1 (W.gt ((wi (a + e)) < (c.size : Int)) ar ?_)
  refine W.adv 1 (W.gt ((wi (a + e)) < (c.size : Int)) ar ?_)
  refine W.adv 1 (W.gt ((wi (a + e)) < (c.size : Int)) ar ?_)
  obtain ⟨f7, H⟩ := H
  refine W.opS (OpIs.ixT (k := .i64) (s := c) (i := (wi (a + e))) (by kernel_rfl) f7 ar) ?_
  refine W.gt ((wi (a + e)) < (c.size : Int)) ar ?_
  obtain ⟨a2, f8, H⟩ := H
  refine W.cl 33 [(.int .u8 (letter c (wi (a + e))))] (.bool a2) f8 ?_
  refine W.opS (O.pk (decide ((wi (a + e)) < (c.size : Int))) true (.bool a2) (.bool false) (decide_eq_true ar)) ?_
  refine W.adv 2 ?_
  rcases H with ⟨db, H⟩ | ⟨db, H⟩
  ·refine W.cb true a2 db ?_
   exact W.adv 10 (W.tl (H _ ak))
  ·refine W.cb false a2 (bfalse db) ?_
   refine W.adv 12 ?_
   obtain ⟨f9, ga, gb, H⟩ := H
   refine W.opS (OpIs.slT_lh (k' := .i64) (k'' := .i64) (s := c) (i := a) (j := (wi (a + e))) (by kernel_rfl) f9 ga gb) ?_
   refine W.adv 3 ?_
   obtain ⟨gc, H⟩ := H
   obtain ⟨b4, ec, H⟩ := H
   have gd : (u.length + 1) = b4.length := by rw [ec, List.length_append] <;> rfl
   refine W.opK (O.apERow E_ref19_Token (.lit (.list 3 [(.agg [.int .i64 2, (.str (c.extract (a).toNat (wi (a + e)).toNat)), .int .i64 f])])) 32 96 ((jb 96).ver) 62 ((vs 62) + 1) ab 3 u [(2, (c.extract (a).toNat (wi (a + e)).toNat), f)] ec ak gc) ?_
   exact W.adv 12 (W.tl (H _ gd))
 ·refine W.gf ((wi (a + e)) < (c.size : Int)) ar ?_
  refine W.gf ((wi (a + e)) < (c.size : Int)) ar ?_
  refine W.gf ((wi (a + e)) < (c.size : Int)) ar ?_
  refine W.gf ((wi (a + e)) < (c.size : Int)) ar ?_
  refine W.gf ((wi (a + e)) < (c.size : Int)) ar ?_
  refine W.gf ((wi (a + e)) < (c.size : Int)) ar ?_
  refine W.opS (O.pk (decide ((wi (a + e)) < (c.size : Int))) false (.tuple []) (.bool false) (decide_eq_false ar)) ?_
  refine W.adv 15 ?_
  obtain ⟨ge, gf, gg, H⟩ := H
  refine W.opS (OpIs.slT_lh (k' := .i64) (k'' := .i64) (s := c) (i := a) (j := (wi (a + e))) (by kernel_rfl) ge gf gg) ?_
  refine W.adv 3 ?_
  obtain ⟨gi, H⟩ := H
  obtain ⟨b5, ed, H⟩ := H
  have gk : (u.length + 1) = b5.length := by rw [ed, List.length_append] <;> rfl
  refine W.opK (O.apERow E_ref19_Token (.lit (.list 3 [(.agg [.int .i64 2, (.str (c.extract (a).toNat (wi (a + e)).toNat)), .int .i64 f])])) 32 96 ((jb 96).ver) 62 ((vs 62) + 1) ab 3 u [(2, (c.extract (a).toNat (wi (a + e)).toNat), f)] ed ak gi) ?_
  exact W.adv 12 (W.tl (H _ gk))
theorem ref19_All_l7_go (H : ((wi (a + e)) < (c.size : Int) ∧ 0 ≤ (wi (a + e)) ∧ (wi (a + e)) ≤ (wi ((wi (a + e)) + 1)) ∧ (wi ((wi (a + e)) + 1)) ≤ (c.size : Int) ∧ (⟨#[97]⟩ : ByteArray).size + (c.extract (wi (a + e)).toNat (wi ((wi (a + e)) + 1)).toNat).size ≤ 9223372036854775807 ∧ ∃ a3, ref17_Word_R ((⟨#[97]⟩ : ByteArray) ++ (c.extract (wi (a + e)).toNat (wi ((wi (a + e)) + 1)).toNat)) a3 ∧ (a3 = true ∧ ref19_All_l7 c f a (wi (e + 1)) u l p q ∨ ¬ a3 = true ∧ 0 ≤ a ∧ a ≤ (wi (a + e)) ∧ (wi (a + e)) ≤ (c.size : Int) ∧ (u.length + 1 + 192) * (32 + 1) ≤ 70368744177664 ∧ ∃ b6, b6 = u ++ [(1, (c.extract (a).toNat (wi (a + e)).toNat), f)] ∧ ref19_All_l9 c f (wi (a + e)) b6 l p q)) ∨ ¬ (wi (a + e)) < (c.size : Int) ∧ 0 ≤ a ∧ a ≤ (wi (a + e)) ∧ (wi (a + e)) ≤ (c.size : Int) ∧ (u.length + 1 + 192) * (32 + 1) ≤ 70368744177664 ∧ ∃ b7, b7 = u ++ [(1, (c.extract (a).toNat (wi (a + e)).toNat), f)] ∧ ref19_All_l9 c f (wi (a + e)) b7 l p q) : ref19_All_l7 c f a e u l p q := by
 intro ab ak j jb vs
 refine W.adv 1 (W.adv 10 ?_)
 rcases H with ⟨af, H⟩ | ⟨af, H⟩
 ·refine W.gt ((wi (a + e)) < (c.size : Int)) af ?_
  refine W.adv 1 (W.gt ((wi (a + e)) < (c.size : Int)) af ?_)
  refine W.adv 1 (W.gt ((wi (a + e)) < (c.size : Int)) af ?_)
  refine W.adv 1 (W.gt ((wi (a + e)) < (c.size : Int)) af ?_)
  refine W.adv 1 (W.gt ((wi (a + e)) < (c.size : Int)) af ?_)
  refine W.adv 1 (W.gt ((wi (a + e)) < (c.size : Int)) af ?_)
  refine W.adv 1 (W.gt ((wi (a + e)) < (c.size : Int)) af ?_)
  refine W.adv 1 (W.gt ((wi (a + e)) < (c.size : Int)) af ?_)
  refine W.adv 1 (W.gt ((wi (a + e)) < (c.size : Int)) af ?_)
  obtain ⟨gl, gm, gn, H⟩ := H
  refine W.opS (OpIs.slT_lh (k' := .i64) (k'' := .i64) (s := c) (i := (wi (a + e))) (j := (wi ((wi (a + e)) + 1))) (by kernel_rfl) gl gm gn) ?_
  refine W.gt ((wi (a + e)) < (c.size : Int)) af ?_
  obtain ⟨gp, H⟩ := H
  refine W.opS (OpIs.bn (op := .add) (x := (.str ⟨#[97]⟩)) (y := (.str (c.extract (wi (a + e)).toNat (wi ((wi (a + e)) + 1)).toNat))) (by kernel_rfl) (addS gp)) ?_
  refine W.gt ((wi (a + e)) < (c.size : Int)) af ?_
  obtain ⟨a3, gq, H⟩ := H
  refine W.cl 34 [(.str ((⟨#[97]⟩ : ByteArray) ++ (c.extract (wi (a + e)).toNat (wi ((wi (a + e)) + 1)).toNat)))] (.bool a3) gq ?_
  refine W.opS (O.pk (decide ((wi (a + e)) < (c.size : Int))) true (.bool a3) (.bool false) (decide_eq_true af)) ?_
  refine W.adv 2 ?_
  rcases H with ⟨dc, H⟩ | ⟨dc, H⟩
  ·refine W.cb true a3 dc ?_
   exact W.adv 10 (W.tl (H _ ak))
  ·refine W.cb false a3 (bfalse dc) ?_
   refine W.adv 12 ?_
   obtain ⟨gr, gs, gt, H⟩ := H
   refine W.opS (OpIs.slT_lh (k' := .i64) (k'' := .i64) (s := c) (i := a) (j := (wi (a + e))) (by kernel_rfl) gr gs gt) ?_
   refine W.adv 3 ?_
   obtain ⟨gu, H⟩ := H
   obtain ⟨b6, ee, H⟩ := H
   have gv : (u.length + 1) = b6.length := by rw [ee, List.length_append] <;> rfl
   refine W.opK (O.apERow E_ref19_Token (.lit (.list 3 [(.agg [.int .i64 1, (.str (c.extract (a).toNat (wi (a + e)).toNat)), .int .i64 f])])) 32 135 ((jb 135).ver) 62 ((vs 62) + 1) ab 3 u [(1, (c.extract (a).toNat (wi (a + e)).toNat), f)] ee ak gu) ?_
   exact W.adv 12 (W.tl (H _ gv))
 ·refine W.gf ((wi (a + e)) < (c.size : Int)) af ?_
  refine W.gf ((wi (a + e)) < (c.size : Int)) af ?_
  refine W.gf ((wi (a + e)) < (c.size : Int)) af ?_
  refine W.gf ((wi (a + e)) < (c.size : Int)) af ?_
  refine W.gf ((wi (a + e)) < (c.size : Int)) af ?_
  refine W.gf ((wi (a + e)) < (c.size : Int)) af ?_
  refine W.gf ((wi (a + e)) < (c.size : Int)) af ?_
  refine W.gf ((wi (a + e)) < (c.size : Int)) af ?_
  refine W.gf ((wi (a + e)) < (c.size : Int)) af ?_
  refine W.gf ((wi (a + e)) < (c.size : Int)) af ?_
  refine W.gf ((wi (a + e)) < (c.size : Int)) af ?_
  refine W.opS (O.pk (decide ((wi (a + e)) < (c.size : Int))) false (.tuple []) (.bool false) (decide_eq_false af)) ?_
  refine W.adv 15 ?_
  obtain ⟨gw, gy, gz, H⟩ := H
  refine W.opS (OpIs.slT_lh (k' := .i64) (k'' := .i64) (s := c) (i := a) (j := (wi (a + e))) (by kernel_rfl) gw gy gz) ?_
  refine W.adv 3 ?_
  obtain ⟨g0, H⟩ := H
  obtain ⟨b7, ef, H⟩ := H
  have g1 : (u.length + 1) = b7.length := by rw [ef, List.length_append] <;> rfl
  refine W.opK (O.apERow E_ref19_Token (.lit (.list 3 [(.agg [.int .i64 1, (.str (c.extract (a).toNat (wi (a + e)).toNat)), .int .i64 f])])) 32 135 ((jb 135).ver) 62 ((vs 62) + 1) ab 3 u [(1, (c.extract (a).toNat (wi (a + e)).toNat), f)] ef ak g0) ?_
  exact W.adv 12 (W.tl (H _ g1))
theorem ref19_All_l8_go (H : a < (c.size : Int) ∧ 0 ≤ a ∧ ((letter c a) = 10 ∧ ref19_All_l8 c (wi (f + 1)) (wi (a + 1)) z l p q ∨ ¬ (letter c a) = 10 ∧ ((letter c a) = 32 ∧ ref19_All_l8 c f (wi (a + 1)) z l p q ∨ ¬ (letter c a) = 32 ∧ ((letter c a) = 9 ∧ ref19_All_l8 c f (wi (a + 1)) z l p q ∨ ¬ (letter c a) = 9 ∧ ((letter c a) = 35 ∧ ref19_All_l10 c f a 1 z l p q ∨ ¬ (letter c a) = 35 ∧ ∃ bk, ref19_mark_R (letter c a) bk ∧ ((bk = true ∧ a ≤ (wi (a + 1)) ∧ (wi (a + 1)) ≤ (c.size : Int) ∧ (z.length + 1 + 192) * (32 + 1) ≤ 70368744177664 ∧ ∃ b8, b8 = z ++ [(3, (c.extract (a).toNat (wi (a + 1)).toNat), f)] ∧ ref19_All_l2 c f (wi (a + 1)) b8 l p q) ∨ ¬ bk = true ∧ (48 ≤ (letter c a) ∧ ((letter c a) ≤ 57 ∧ ref19_All_l11 c f a 1 z l p q ∨ ¬ (letter c a) ≤ 57 ∧ (97 ≤ (letter c a) ∧ ((letter c a) ≤ 122 ∧ ref19_All_l12 c f a 1 z l p q ∨ ¬ (letter c a) ≤ 122 ∧ l = ([] : List T_ref19_Token) ∧ p = f ∧ q = 21) ∨ ¬ 97 ≤ (letter c a) ∧ l = ([] : List T_ref19_Token) ∧ p = f ∧ q = 21)) ∨ ¬ 48 ≤ (letter c a) ∧ (97 ≤ (letter c a) ∧ ((letter c a) ≤ 122 ∧ ref19_All_l12 c f a 1 z l p q ∨ ¬ (letter c a) ≤ 122 ∧ l = ([] : List T_ref19_Token) ∧ p = f ∧ q = 21) ∨ ¬ 97 ≤ (letter c a) ∧ l = ([] : List T_ref19_Token) ∧ p = f ∧ q = 21))))))) ∨ ¬ a < (c.size : Int) ∧ l = z ∧ p = f ∧ q = 0) : ref19_All_l8 c f a z l p q := by
 intro ac al j jb vs
 refine W.adv 1 (W.adv 9 ?_)
 rcases H with ⟨cn, H⟩ | ⟨cn, H⟩
 ·refine W.ct (a < (c.size : Int)) cn ?_
  refine W.adv 7 ?_
  obtain ⟨eg, H⟩ := H
  refine W.opS (OpIs.ixT (k := .i64) (s := c) (i := a) (by kernel_rfl) eg cn) ?_
  refine W.adv 17 ?_
  rcases H with ⟨dd, H⟩ | ⟨dd, H⟩
  ·refine W.ct ((letter c a) = 10) dd ?_
   exact W.adv 15 (W.tl (H _ al))
  ·refine W.cf ((letter c a) = 10) dd ?_
   refine W.adv 5 ?_
   rcases H with ⟨bl, H⟩ | ⟨bl, H⟩
   ·refine W.gt' ((letter c a) = 32) bl ?_
    refine W.gt' ((letter c a) = 32) bl ?_
    refine W.opS (O.pk (decide ((letter c a) = 32)) true (.bool true) (.tuple []) (decide_eq_true bl)) ?_
    exact W.adv 17 (W.tl (H _ al))
   ·refine W.gf' ((letter c a) = 32) bl ?_
    refine W.adv 1 (W.gf' ((letter c a) = 32) bl ?_)
    refine W.adv 1 (W.opS (O.pk (decide ((letter c a) = 32)) false (.bool true) (.bool (decide ((letter c a) = 9))) (decide_eq_false bl)) ?_)
    refine W.adv 3 ?_
    rcases H with ⟨de, H⟩ | ⟨de, H⟩
    ·refine W.ct ((letter c a) = 9) de ?_
     exact W.adv 13 (W.tl (H _ al))
    ·refine W.cf ((letter c a) = 9) de ?_
     refine W.adv 7 ?_
     rcases H with ⟨df, H⟩ | ⟨df, H⟩
     ·refine W.ct ((letter c a) = 35) df ?_
      exact W.adv 1 (W.tl (H _ al))
     ·refine W.cf ((letter c a) = 35) df ?_
      refine W.adv 3 ?_
      obtain ⟨bk, g2, H⟩ := H
      refine W.cl 32 [(.int .u8 (letter c a))] (.bool bk) g2 ?_
      refine W.adv 3 ?_
      rcases H with ⟨dg, H⟩ | ⟨dg, H⟩
      ·refine W.cb true bk dg ?_
       refine W.adv 6 ?_
       obtain ⟨g3, g4, H⟩ := H
       refine W.opS (OpIs.slT_lh (k' := .i64) (k'' := .i64) (s := c) (i := a) (j := (wi (a + 1))) (by kernel_rfl) eg g3 g4) ?_
       refine W.adv 3 ?_
       obtain ⟨g5, H⟩ := H
       obtain ⟨b8, ei, H⟩ := H
       have g6 : (z.length + 1) = b8.length := by rw [ei, List.length_append] <;> rfl
       refine W.opK (O.apERow E_ref19_Token (.lit (.list 3 [(.agg [.int .i64 3, (.str (c.extract (a).toNat (wi (a + 1)).toNat)), .int .i64 f])])) 32 62 ((jb 62).ver) 96 ((vs 96) + 1) ac 3 z [(3, (c.extract (a).toNat (wi (a + 1)).toNat), f)] ei al g5) ?_
       exact W.adv 12 (W.tl (H _ g6))
      ·refine W.cb false bk (bfalse dg) ?_
       refine W.adv 5 ?_
       rcases H with ⟨bm, H⟩ | ⟨bm, H⟩
       ·refine W.gt (48 ≤ (letter c a)) bm ?_
        refine W.adv 1 (W.gt (48 ≤ (letter c a)) bm ?_)
        refine W.adv 1 (W.opS (O.pk (decide (48 ≤ (letter c a))) true (.bool (decide ((letter c a) ≤ 57))) (.bool false) (decide_eq_true bm)) ?_)
        refine W.adv 3 ?_
        rcases H with ⟨di, H⟩ | ⟨di, H⟩
        ·refine W.ct ((letter c a) ≤ 57) di ?_
         exact W.adv 2 (W.tl (H _ al))
        ·refine W.cf ((letter c a) ≤ 57) di ?_
         refine W.adv 5 ?_
         rcases H with ⟨bp, H⟩ | ⟨bp, H⟩
         ·refine W.gt (97 ≤ (letter c a)) bp ?_
          refine W.adv 1 (W.gt (97 ≤ (letter c a)) bp ?_)
          refine W.adv 1 (W.opS (O.pk (decide (97 ≤ (letter c a))) true (.bool (decide ((letter c a) ≤ 122))) (.bool false) (decide_eq_true bp)) ?_)
          refine W.adv 3 ?_
          rcases H with ⟨dk, H⟩ | ⟨dk, H⟩
          ·refine W.ct ((letter c a) ≤ 122) dk ?_
           exact W.adv 2 (W.tl (H _ al))
          ·refine W.cf ((letter c a) ≤ 122) dk ?_
           exact W.adv 15 (W.fr (Ans.q (.tuple [(.list 3 (([] : List T_ref19_Token).map E_ref19_Token)), .int .i64 f, .int .i64 21]) (by rw [H.1, H.2.1, H.2.2])))
         ·refine W.gf (97 ≤ (letter c a)) bp ?_
          refine W.gf (97 ≤ (letter c a)) bp ?_
          refine W.opS (O.pk (decide (97 ≤ (letter c a))) false (.tuple []) (.bool false) (decide_eq_false bp)) ?_
          exact W.adv 19 (W.fr (Ans.q (.tuple [(.list 3 (([] : List T_ref19_Token).map E_ref19_Token)), .int .i64 f, .int .i64 21]) (by rw [H.1, H.2.1, H.2.2])))
       ·refine W.gf (48 ≤ (letter c a)) bm ?_
        refine W.gf (48 ≤ (letter c a)) bm ?_
        refine W.opS (O.pk (decide (48 ≤ (letter c a))) false (.tuple []) (.bool false) (decide_eq_false bm)) ?_
        refine W.adv 9 ?_
        rcases H with ⟨bq, H⟩ | ⟨bq, H⟩
        ·refine W.gt (97 ≤ (letter c a)) bq ?_
         refine W.adv 1 (W.gt (97 ≤ (letter c a)) bq ?_)
         refine W.adv 1 (W.opS (O.pk (decide (97 ≤ (letter c a))) true (.bool (decide ((letter c a) ≤ 122))) (.bool false) (decide_eq_true bq)) ?_)
         refine W.adv 3 ?_
         rcases H with ⟨dl, H⟩ | ⟨dl, H⟩
         ·refine W.ct ((letter c a) ≤ 122) dl ?_
          exact W.adv 2 (W.tl (H _ al))
         ·refine W.cf ((letter c a) ≤ 122) dl ?_
          exact W.adv 15 (W.fr (Ans.q (.tuple [(.list 3 (([] : List T_ref19_Token).map E_ref19_Token)), .int .i64 f, .int .i64 21]) (by rw [H.1, H.2.1, H.2.2])))
        ·refine W.gf (97 ≤ (letter c a)) bq ?_
         refine W.gf (97 ≤ (letter c a)) bq ?_
         refine W.opS (O.pk (decide (97 ≤ (letter c a))) false (.tuple []) (.bool false) (decide_eq_false bq)) ?_
         exact W.adv 19 (W.fr (Ans.q (.tuple [(.list 3 (([] : List T_ref19_Token).map E_ref19_Token)), .int .i64 f, .int .i64 21]) (by rw [H.1, H.2.1, H.2.2])))
 ·refine W.cf (a < (c.size : Int)) cn ?_
  exact W.adv 15 (W.fr (Ans.of (d := (.tuple [(.sref 96 ((vs 96) + 1) 3 0 ac), .int .i64 f, .int .i64 0])) (d' := (.tuple [(.list 3 (z.map E_ref19_Token)), .int .i64 f, .int .i64 0])) (e' := (.tuple [(.list 3 (z.map E_ref19_Token)), .int .i64 f, .int .i64 0])) (by kernel_rfl) ((congrArg (fun h => reify h DEPTH (.tuple [(.sref 96 ((vs 96) + 1) 3 0 ac), .int .i64 f, .int .i64 0])) (tidy_ver (b := 96) (v := (vs 96)) (fz := false) (y := .rows 3 (z.map E_ref19_Token)) (by kernel_rfl))).trans (rf_tup (rf_cons (rf_fullE (enc := E_ref19_Token) E_ref19_Token_t (b := 96) (v := ((vs 96) + 1)) (w := ((vs 96) + 1)) (fz := false) (xs := z) (by kernel_rfl) rfl al) (rf_cons (by kernel_rfl) (rf_cons (by kernel_rfl) rf_nil))))) (by kernel_rfl) (by rw [H.1, H.2.1, H.2.2])))
theorem ref19_All_l9_go (H : a < (c.size : Int) ∧ 0 ≤ a ∧ ((letter c a) = 10 ∧ ref19_All_l9 c (wi (f + 1)) (wi (a + 1)) aa l p q ∨ ¬ (letter c a) = 10 ∧ ((letter c a) = 32 ∧ ref19_All_l9 c f (wi (a + 1)) aa l p q ∨ ¬ (letter c a) = 32 ∧ ((letter c a) = 9 ∧ ref19_All_l9 c f (wi (a + 1)) aa l p q ∨ ¬ (letter c a) = 9 ∧ ((letter c a) = 35 ∧ ref19_All_l13 c f a 1 aa l p q ∨ ¬ (letter c a) = 35 ∧ ∃ br, ref19_mark_R (letter c a) br ∧ ((br = true ∧ a ≤ (wi (a + 1)) ∧ (wi (a + 1)) ≤ (c.size : Int) ∧ (aa.length + 1 + 192) * (32 + 1) ≤ 70368744177664 ∧ ∃ b9, b9 = aa ++ [(3, (c.extract (a).toNat (wi (a + 1)).toNat), f)] ∧ ref19_All_l2 c f (wi (a + 1)) b9 l p q) ∨ ¬ br = true ∧ (48 ≤ (letter c a) ∧ ((letter c a) ≤ 57 ∧ ref19_All_l14 c f a 1 aa l p q ∨ ¬ (letter c a) ≤ 57 ∧ (97 ≤ (letter c a) ∧ ((letter c a) ≤ 122 ∧ ref19_All_l15 c f a 1 aa l p q ∨ ¬ (letter c a) ≤ 122 ∧ l = ([] : List T_ref19_Token) ∧ p = f ∧ q = 21) ∨ ¬ 97 ≤ (letter c a) ∧ l = ([] : List T_ref19_Token) ∧ p = f ∧ q = 21)) ∨ ¬ 48 ≤ (letter c a) ∧ (97 ≤ (letter c a) ∧ ((letter c a) ≤ 122 ∧ ref19_All_l15 c f a 1 aa l p q ∨ ¬ (letter c a) ≤ 122 ∧ l = ([] : List T_ref19_Token) ∧ p = f ∧ q = 21) ∨ ¬ 97 ≤ (letter c a) ∧ l = ([] : List T_ref19_Token) ∧ p = f ∧ q = 21))))))) ∨ ¬ a < (c.size : Int) ∧ l = aa ∧ p = f ∧ q = 0) : ref19_All_l9 c f a aa l p q := by
 intro ad am j jb vs
 refine W.adv 1 (W.adv 9 ?_)
 rcases H with ⟨cp, H⟩ | ⟨cp, H⟩
 ·refine W.ct (a < (c.size : Int)) cp ?_
  refine W.adv 7 ?_
  obtain ⟨ek, H⟩ := H
  refine W.opS (OpIs.ixT (k := .i64) (s := c) (i := a) (by kernel_rfl) ek cp) ?_
  refine W.adv 17 ?_
  rcases H with ⟨dm, H⟩ | ⟨dm, H⟩
  ·refine W.ct ((letter c a) = 10) dm ?_
   exact W.adv 15 (W.tl (H _ am))
  ·refine W.cf ((letter c a) = 10) dm ?_
   refine W.adv 5 ?_
   rcases H with ⟨bs, H⟩ | ⟨bs, H⟩
   ·refine W.gt' ((letter c a) = 32) bs ?_
    refine W.gt' ((letter c a) = 32) bs ?_
    refine W.opS (O.pk (decide ((letter c a) = 32)) true (.bool true) (.tuple []) (decide_eq_true bs)) ?_
    exact W.adv 17 (W.tl (H _ am))
   ·refine W.gf' ((letter c a) = 32) bs ?_
    refine W.adv 1 (W.gf' ((letter c a) = 32) bs ?_)
    refine W.adv 1 (W.opS (O.pk (decide ((letter c a) = 32)) false (.bool true) (.bool (decide ((letter c a) = 9))) (decide_eq_false bs)) ?_)
    refine W.adv 3 ?_
    rcases H with ⟨dn, H⟩ | ⟨dn, H⟩
    ·refine W.ct ((letter c a) = 9) dn ?_
     exact W.adv 13 (W.tl (H _ am))
    ·refine W.cf ((letter c a) = 9) dn ?_
     refine W.adv 7 ?_
     rcases H with ⟨dp, H⟩ | ⟨dp, H⟩
     ·refine W.ct ((letter c a) = 35) dp ?_
      exact W.adv 1 (W.tl (H _ am))
     ·refine W.cf ((letter c a) = 35) dp ?_
      refine W.adv 3 ?_
      obtain ⟨br, g7, H⟩ := H
      refine W.cl 32 [(.int .u8 (letter c a))] (.bool br) g7 ?_
      refine W.adv 3 ?_
      rcases H with ⟨dq, H⟩ | ⟨dq, H⟩
      ·refine W.cb true br dq ?_
       refine W.adv 6 ?_
       obtain ⟨g8, g9, H⟩ := H
       refine W.opS (OpIs.slT_lh (k' := .i64) (k'' := .i64) (s := c) (i := a) (j := (wi (a + 1))) (by kernel_rfl) ek g8 g9) ?_
       refine W.adv 3 ?_
       obtain ⟨ia, H⟩ := H
       obtain ⟨b9, el, H⟩ := H
       have ib : (aa.length + 1) = b9.length := by rw [el, List.length_append] <;> rfl
       refine W.opK (O.apERow E_ref19_Token (.lit (.list 3 [(.agg [.int .i64 3, (.str (c.extract (a).toNat (wi (a + 1)).toNat)), .int .i64 f])])) 32 62 ((jb 62).ver) 135 ((vs 135) + 1) ad 3 aa [(3, (c.extract (a).toNat (wi (a + 1)).toNat), f)] el am ia) ?_
       exact W.adv 12 (W.tl (H _ ib))
      ·refine W.cb false br (bfalse dq) ?_
       refine W.adv 5 ?_
       rcases H with ⟨bt, H⟩ | ⟨bt, H⟩
       ·refine W.gt (48 ≤ (letter c a)) bt ?_
        refine W.adv 1 (W.gt (48 ≤ (letter c a)) bt ?_)
        refine W.adv 1 (W.opS (O.pk (decide (48 ≤ (letter c a))) true (.bool (decide ((letter c a) ≤ 57))) (.bool false) (decide_eq_true bt)) ?_)
        refine W.adv 3 ?_
        rcases H with ⟨dr, H⟩ | ⟨dr, H⟩
        ·refine W.ct ((letter c a) ≤ 57) dr ?_
         exact W.adv 2 (W.tl (H _ am))
        ·refine W.cf ((letter c a) ≤ 57) dr ?_
         refine W.adv 5 ?_
         rcases H with ⟨bu, H⟩ | ⟨bu, H⟩
         ·refine W.gt (97 ≤ (letter c a)) bu ?_
          refine W.adv 1 (W.gt (97 ≤ (letter c a)) bu ?_)
          refine W.adv 1 (W.opS (O.pk (decide (97 ≤ (letter c a))) true (.bool (decide ((letter c a) ≤ 122))) (.bool false) (decide_eq_true bu)) ?_)
          refine W.adv 3 ?_
          rcases H with ⟨dt, H⟩ | ⟨dt, H⟩
          ·refine W.ct ((letter c a) ≤ 122) dt ?_
           exact W.adv 2 (W.tl (H _ am))
          ·refine W.cf ((letter c a) ≤ 122) dt ?_
           exact W.adv 15 (W.fr (Ans.q (.tuple [(.list 3 (([] : List T_ref19_Token).map E_ref19_Token)), .int .i64 f, .int .i64 21]) (by rw [H.1, H.2.1, H.2.2])))
         ·refine W.gf (97 ≤ (letter c a)) bu ?_
          refine W.gf (97 ≤ (letter c a)) bu ?_
          refine W.opS (O.pk (decide (97 ≤ (letter c a))) false (.tuple []) (.bool false) (decide_eq_false bu)) ?_
          exact W.adv 19 (W.fr (Ans.q (.tuple [(.list 3 (([] : List T_ref19_Token).map E_ref19_Token)), .int .i64 f, .int .i64 21]) (by rw [H.1, H.2.1, H.2.2])))
       ·refine W.gf (48 ≤ (letter c a)) bt ?_
        refine W.gf (48 ≤ (letter c a)) bt ?_
        refine W.opS (O.pk (decide (48 ≤ (letter c a))) false (.tuple []) (.bool false) (decide_eq_false bt)) ?_
        refine W.adv 9 ?_
        rcases H with ⟨bv, H⟩ | ⟨bv, H⟩
        ·refine W.gt (97 ≤ (letter c a)) bv ?_
         refine W.adv 1 (W.gt (97 ≤ (letter c a)) bv ?_)
         refine W.adv 1 (W.opS (O.pk (decide (97 ≤ (letter c a))) true (.bool (decide ((letter c a) ≤ 122))) (.bool false) (decide_eq_true bv)) ?_)
         refine W.adv 3 ?_
         rcases H with ⟨du, H⟩ | ⟨du, H⟩
         ·refine W.ct ((letter c a) ≤ 122) du ?_
          exact W.adv 2 (W.tl (H _ am))
         ·refine W.cf ((letter c a) ≤ 122) du ?_
          exact W.adv 15 (W.fr (Ans.q (.tuple [(.list 3 (([] : List T_ref19_Token).map E_ref19_Token)), .int .i64 f, .int .i64 21]) (by rw [H.1, H.2.1, H.2.2])))
        ·refine W.gf (97 ≤ (letter c a)) bv ?_
         refine W.gf (97 ≤ (letter c a)) bv ?_
         refine W.opS (O.pk (decide (97 ≤ (letter c a))) false (.tuple []) (.bool false) (decide_eq_false bv)) ?_
         exact W.adv 19 (W.fr (Ans.q (.tuple [(.list 3 (([] : List T_ref19_Token).map E_ref19_Token)), .int .i64 f, .int .i64 21]) (by rw [H.1, H.2.1, H.2.2])))
 ·refine W.cf (a < (c.size : Int)) cp ?_
  exact W.adv 15 (W.fr (Ans.of (d := (.tuple [(.sref 135 ((vs 135) + 1) 3 0 ad), .int .i64 f, .int .i64 0])) (d' := (.tuple [(.list 3 (aa.map E_ref19_Token)), .int .i64 f, .int .i64 0])) (e' := (.tuple [(.list 3 (aa.map E_ref19_Token)), .int .i64 f, .int .i64 0])) (by kernel_rfl) ((congrArg (fun h => reify h DEPTH (.tuple [(.sref 135 ((vs 135) + 1) 3 0 ad), .int .i64 f, .int .i64 0])) (tidy_ver (b := 135) (v := (vs 135)) (fz := false) (y := .rows 3 (aa.map E_ref19_Token)) (by kernel_rfl))).trans (rf_tup (rf_cons (rf_fullE (enc := E_ref19_Token) E_ref19_Token_t (b := 135) (v := ((vs 135) + 1)) (w := ((vs 135) + 1)) (fz := false) (xs := aa) (by kernel_rfl) rfl am) (rf_cons (by kernel_rfl) (rf_cons (by kernel_rfl) rf_nil))))) (by kernel_rfl) (by rw [H.1, H.2.1, H.2.2])))
theorem ref19_All_l10_go (H : (wi (a + e)) < (c.size : Int) ∧ 0 ≤ (wi (a + e)) ∧ ((letter c (wi (a + e))) = 10 ∧ ref19_All_l8 c f (wi (a + e)) z l p q ∨ ¬ (letter c (wi (a + e))) = 10 ∧ ref19_All_l10 c f a (wi (e + 1)) z l p q) ∨ ¬ (wi (a + e)) < (c.size : Int) ∧ ref19_All_l8 c f (wi (a + e)) z l p q) : ref19_All_l10 c f a e z l p q := by
 intro ac al j jb vs
 refine W.adv 1 (W.adv 10 ?_)
 rcases H with ⟨au, H⟩ | ⟨au, H⟩
 ·refine W.gt ((wi (a + e)) < (c.size : Int)) au ?_
  refine W.adv 1 (W.gt ((wi (a + e)) < (c.size : Int)) au ?_)
  refine W.adv 1 (W.gt ((wi (a + e)) < (c.size : Int)) au ?_)
  refine W.adv 1 (W.gt ((wi (a + e)) < (c.size : Int)) au ?_)
  refine W.adv 1 (W.gt ((wi (a + e)) < (c.size : Int)) au ?_)
  obtain ⟨id, H⟩ := H
  refine W.opS (OpIs.ixT (k := .i64) (s := c) (i := (wi (a + e))) (by kernel_rfl) id au) ?_
  refine W.gt ((wi (a + e)) < (c.size : Int)) au ?_
  refine W.adv 1 (W.opS (O.pk (decide ((wi (a + e)) < (c.size : Int))) true (.bool (!(decide ((letter c (wi (a + e))) = 10)))) (.bool false) (decide_eq_true au)) ?_)
  refine W.adv 2 ?_
  rcases H with ⟨dw, H⟩ | ⟨dw, H⟩
  ·refine W.cb false (!(decide ((letter c (wi (a + e))) = 10))) (congrArg (fun b => !b) (decide_eq_true dw)) ?_
   exact W.adv 14 (W.tl (H _ al))
  ·refine W.cb true (!(decide ((letter c (wi (a + e))) = 10))) (congrArg (fun b => !b) (decide_eq_false dw)) ?_
   exact W.adv 10 (W.tl (H _ al))
 ·refine W.gf ((wi (a + e)) < (c.size : Int)) au ?_
  refine W.gf ((wi (a + e)) < (c.size : Int)) au ?_
  refine W.gf ((wi (a + e)) < (c.size : Int)) au ?_
  refine W.gf ((wi (a + e)) < (c.size : Int)) au ?_
  refine W.gf ((wi (a + e)) < (c.size : Int)) au ?_
  refine W.gf ((wi (a + e)) < (c.size : Int)) au ?_
  refine W.opS (O.pk (decide ((wi (a + e)) < (c.size : Int))) false (.tuple []) (.bool false) (decide_eq_false au)) ?_
  exact W.adv 17 (W.tl (H _ al))
theorem ref19_All_l11_go (H : ((wi (a + e)) < (c.size : Int) ∧ 0 ≤ (wi (a + e)) ∧ ∃ a4, ref19_figure_R (letter c (wi (a + e))) a4 ∧ (a4 = true ∧ ref19_All_l11 c f a (wi (e + 1)) z l p q ∨ ¬ a4 = true ∧ 0 ≤ a ∧ a ≤ (wi (a + e)) ∧ (wi (a + e)) ≤ (c.size : Int) ∧ (z.length + 1 + 192) * (32 + 1) ≤ 70368744177664 ∧ ∃ ca, ca = z ++ [(2, (c.extract (a).toNat (wi (a + e)).toNat), f)] ∧ ref19_All_l8 c f (wi (a + e)) ca l p q)) ∨ ¬ (wi (a + e)) < (c.size : Int) ∧ 0 ≤ a ∧ a ≤ (wi (a + e)) ∧ (wi (a + e)) ≤ (c.size : Int) ∧ (z.length + 1 + 192) * (32 + 1) ≤ 70368744177664 ∧ ∃ cc, cc = z ++ [(2, (c.extract (a).toNat (wi (a + e)).toNat), f)] ∧ ref19_All_l8 c f (wi (a + e)) cc l p q) : ref19_All_l11 c f a e z l p q := by
 intro ac al j jb vs
 refine W.adv 1 (W.adv 10 ?_)
 rcases H with ⟨av, H⟩ | ⟨av, H⟩
 ·refine W.gt ((wi (a + e)) < (c.size : Int)) av ?_
  refine W.adv 1 (W.gt ((wi (a + e)) < (c.size : Int)) av ?_)
  refine W.adv 1 (W.gt ((wi (a + e)) < (c.size : Int)) av ?_)
  refine W.adv 1 (W.gt ((wi (a + e)) < (c.size : Int)) av ?_)
  refine W.adv 1 (W.gt ((wi (a + e)) < (c.size : Int)) av ?_)
  obtain ⟨ie, H⟩ := H
  refine W.opS (OpIs.ixT (k := .i64) (s := c) (i := (wi (a + e))) (by kernel_rfl) ie av) ?_
  refine W.gt ((wi (a + e)) < (c.size : Int)) av ?_
  obtain ⟨a4, ig, H⟩ := H
  refine W.cl 33 [(.int .u8 (letter c (wi (a + e))))] (.bool a4) ig ?_
  refine W.opS (O.pk (decide ((wi (a + e)) < (c.size : Int))) true (.bool a4) (.bool false) (decide_eq_true av)) ?_
  refine W.adv 2 ?_
  rcases H with ⟨dy, H⟩ | ⟨dy, H⟩
  ·refine W.cb true a4 dy ?_
   exact W.adv 10 (W.tl (H _ al))
  ·refine W.cb false a4 (bfalse dy) ?_
   refine W.adv 12 ?_
   obtain ⟨ii, ik, il, H⟩ := H
   refine W.opS (OpIs.slT_lh (k' := .i64) (k'' := .i64) (s := c) (i := a) (j := (wi (a + e))) (by kernel_rfl) ii ik il) ?_
   refine W.adv 3 ?_
   obtain ⟨im, H⟩ := H
   obtain ⟨ca, em, H⟩ := H
   have ip : (z.length + 1) = ca.length := by rw [em, List.length_append] <;> rfl
   refine W.opK (O.apERow E_ref19_Token (.lit (.list 3 [(.agg [.int .i64 2, (.str (c.extract (a).toNat (wi (a + e)).toNat)), .int .i64 f])])) 32 96 ((vs 96) + 1) 96 ((vs 96) + 1) ac 3 z [(2, (c.extract (a).toNat (wi (a + e)).toNat), f)] em al im) ?_
   exact W.adv 12 (W.tl (H _ ip))
 ·refine W.gf ((wi (a + e)) < (c.size : Int)) av ?_
  refine W.gf ((wi (a + e)) < (c.size : Int)) av ?_
  refine W.gf ((wi (a + e)) < (c.size : Int)) av ?_
  refine W.gf ((wi (a + e)) < (c.size : Int)) av ?_
  refine W.gf ((wi (a + e)) < (c.size : Int)) av ?_
  refine W.gf ((wi (a + e)) < (c.size : Int)) av ?_
  refine W.opS (O.pk (decide ((wi (a + e)) < (c.size : Int))) false (.tuple []) (.bool false) (decide_eq_false av)) ?_
  refine W.adv 15 ?_
  obtain ⟨iq, ir, it, H⟩ := H
  refine W.opS (OpIs.slT_lh (k' := .i64) (k'' := .i64) (s := c) (i := a) (j := (wi (a + e))) (by kernel_rfl) iq ir it) ?_
  refine W.adv 3 ?_
  obtain ⟨iu, H⟩ := H
  obtain ⟨cc, en, H⟩ := H
  have iv : (z.length + 1) = cc.length := by rw [en, List.length_append] <;> rfl
  refine W.opK (O.apERow E_ref19_Token (.lit (.list 3 [(.agg [.int .i64 2, (.str (c.extract (a).toNat (wi (a + e)).toNat)), .int .i64 f])])) 32 96 ((vs 96) + 1) 96 ((vs 96) + 1) ac 3 z [(2, (c.extract (a).toNat (wi (a + e)).toNat), f)] en al iu) ?_
  exact W.adv 12 (W.tl (H _ iv))
theorem ref19_All_l12_go (H : ((wi (a + e)) < (c.size : Int) ∧ 0 ≤ (wi (a + e)) ∧ (wi (a + e)) ≤ (wi ((wi (a + e)) + 1)) ∧ (wi ((wi (a + e)) + 1)) ≤ (c.size : Int) ∧ (⟨#[97]⟩ : ByteArray).size + (c.extract (wi (a + e)).toNat (wi ((wi (a + e)) + 1)).toNat).size ≤ 9223372036854775807 ∧ ∃ a5, ref17_Word_R ((⟨#[97]⟩ : ByteArray) ++ (c.extract (wi (a + e)).toNat (wi ((wi (a + e)) + 1)).toNat)) a5 ∧ (a5 = true ∧ ref19_All_l12 c f a (wi (e + 1)) z l p q ∨ ¬ a5 = true ∧ 0 ≤ a ∧ a ≤ (wi (a + e)) ∧ (wi (a + e)) ≤ (c.size : Int) ∧ (z.length + 1 + 192) * (32 + 1) ≤ 70368744177664 ∧ ∃ cd, cd = z ++ [(1, (c.extract (a).toNat (wi (a + e)).toNat), f)] ∧ ref19_All_l9 c f (wi (a + e)) cd l p q)) ∨ ¬ (wi (a + e)) < (c.size : Int) ∧ 0 ≤ a ∧ a ≤ (wi (a + e)) ∧ (wi (a + e)) ≤ (c.size : Int) ∧ (z.length + 1 + 192) * (32 + 1) ≤ 70368744177664 ∧ ∃ ce, ce = z ++ [(1, (c.extract (a).toNat (wi (a + e)).toNat), f)] ∧ ref19_All_l9 c f (wi (a + e)) ce l p q) : ref19_All_l12 c f a e z l p q := by
 intro ac al j jb vs
 refine W.adv 1 (W.adv 10 ?_)
 rcases H with ⟨ag, H⟩ | ⟨ag, H⟩
 ·refine W.gt ((wi (a + e)) < (c.size : Int)) ag ?_
  refine W.adv 1 (W.gt ((wi (a + e)) < (c.size : Int)) ag ?_)
  refine W.adv 1 (W.gt ((wi (a + e)) < (c.size : Int)) ag ?_)
  refine W.adv 1 (W.gt ((wi (a + e)) < (c.size : Int)) ag ?_)
  refine W.adv 1 (W.gt ((wi (a + e)) < (c.size : Int)) ag ?_)
  refine W.adv 1 (W.gt ((wi (a + e)) < (c.size : Int)) ag ?_)
  refine W.adv 1 (W.gt ((wi (a + e)) < (c.size : Int)) ag ?_)
  refine W.adv 1 (W.gt ((wi (a + e)) < (c.size : Int)) ag ?_)
  refine W.adv 1 (W.gt ((wi (a + e)) < (c.size : Int)) ag ?_)
  obtain ⟨iw, iy, iz, H⟩ := H
  refine W.opS (OpIs.slT_lh (k' := .i64) (k'' := .i64) (s := c) (i := (wi (a + e))) (j := (wi ((wi (a + e)) + 1))) (by kernel_rfl) iw iy iz) ?_
  refine W.gt ((wi (a + e)) < (c.size : Int)) ag ?_
  obtain ⟨i0, H⟩ := H
  refine W.opS (OpIs.bn (op := .add) (x := (.str ⟨#[97]⟩)) (y := (.str (c.extract (wi (a + e)).toNat (wi ((wi (a + e)) + 1)).toNat))) (by kernel_rfl) (addS i0)) ?_
  refine W.gt ((wi (a + e)) < (c.size : Int)) ag ?_
  obtain ⟨a5, i1, H⟩ := H
  refine W.cl 34 [(.str ((⟨#[97]⟩ : ByteArray) ++ (c.extract (wi (a + e)).toNat (wi ((wi (a + e)) + 1)).toNat)))] (.bool a5) i1 ?_
  refine W.opS (O.pk (decide ((wi (a + e)) < (c.size : Int))) true (.bool a5) (.bool false) (decide_eq_true ag)) ?_
  refine W.adv 2 ?_
  rcases H with ⟨dz, H⟩ | ⟨dz, H⟩
  ·refine W.cb true a5 dz ?_
   exact W.adv 10 (W.tl (H _ al))
  ·refine W.cb false a5 (bfalse dz) ?_
   refine W.adv 12 ?_
   obtain ⟨i2, i3, i4, H⟩ := H
   refine W.opS (OpIs.slT_lh (k' := .i64) (k'' := .i64) (s := c) (i := a) (j := (wi (a + e))) (by kernel_rfl) i2 i3 i4) ?_
   refine W.adv 3 ?_
   obtain ⟨i5, H⟩ := H
   obtain ⟨cd, ep, H⟩ := H
   have i6 : (z.length + 1) = cd.length := by rw [ep, List.length_append] <;> rfl
   refine W.opK (O.apERow E_ref19_Token (.lit (.list 3 [(.agg [.int .i64 1, (.str (c.extract (a).toNat (wi (a + e)).toNat)), .int .i64 f])])) 32 135 ((jb 135).ver) 96 ((vs 96) + 1) ac 3 z [(1, (c.extract (a).toNat (wi (a + e)).toNat), f)] ep al i5) ?_
   exact W.adv 12 (W.tl (H _ i6))
 ·refine W.gf ((wi (a + e)) < (c.size : Int)) ag ?_
  refine W.gf ((wi (a + e)) < (c.size : Int)) ag ?_
  refine W.gf ((wi (a + e)) < (c.size : Int)) ag ?_
  refine W.gf ((wi (a + e)) < (c.size : Int)) ag ?_
  refine W.gf ((wi (a + e)) < (c.size : Int)) ag ?_
  refine W.gf ((wi (a + e)) < (c.size : Int)) ag ?_
  refine W.gf ((wi (a + e)) < (c.size : Int)) ag ?_
  refine W.gf ((wi (a + e)) < (c.size : Int)) ag ?_
  refine W.gf ((wi (a + e)) < (c.size : Int)) ag ?_
  refine W.gf ((wi (a + e)) < (c.size : Int)) ag ?_
  refine W.gf ((wi (a + e)) < (c.size : Int)) ag ?_
  refine W.opS (O.pk (decide ((wi (a + e)) < (c.size : Int))) false (.tuple []) (.bool false) (decide_eq_false ag)) ?_
  refine W.adv 15 ?_
  obtain ⟨i7, i8, i9, H⟩ := H
  refine W.opS (OpIs.slT_lh (k' := .i64) (k'' := .i64) (s := c) (i := a) (j := (wi (a + e))) (by kernel_rfl) i7 i8 i9) ?_
  refine W.adv 3 ?_
  obtain ⟨ka, H⟩ := H
  obtain ⟨ce, eq, H⟩ := H
  have kb : (z.length + 1) = ce.length := by rw [eq, List.length_append] <;> rfl
  refine W.opK (O.apERow E_ref19_Token (.lit (.list 3 [(.agg [.int .i64 1, (.str (c.extract (a).toNat (wi (a + e)).toNat)), .int .i64 f])])) 32 135 ((jb 135).ver) 96 ((vs 96) + 1) ac 3 z [(1, (c.extract (a).toNat (wi (a + e)).toNat), f)] eq al ka) ?_
  exact W.adv 12 (W.tl (H _ kb))
theorem ref19_All_l13_go (H : (wi (a + e)) < (c.size : Int) ∧ 0 ≤ (wi (a + e)) ∧ ((letter c (wi (a + e))) = 10 ∧ ref19_All_l9 c f (wi (a + e)) aa l p q ∨ ¬ (letter c (wi (a + e))) = 10 ∧ ref19_All_l13 c f a (wi (e + 1)) aa l p q) ∨ ¬ (wi (a + e)) < (c.size : Int) ∧ ref19_All_l9 c f (wi (a + e)) aa l p q) : ref19_All_l13 c f a e aa l p q := by
 intro ad am j jb vs
 refine W.adv 1 (W.adv 10 ?_)
 rcases H with ⟨aw, H⟩ | ⟨aw, H⟩
 ·refine W.gt ((wi (a + e)) < (c.size : Int)) aw ?_
  refine W.adv 1 (W.gt ((wi (a + e)) < (c.size : Int)) aw ?_)
  refine W.adv 1 (W.gt ((wi (a + e)) < (c.size : Int)) aw ?_)
  refine W.adv 1 (W.gt ((wi (a + e)) < (c.size : Int)) aw ?_)
  refine W.adv 1 (W.gt ((wi (a + e)) < (c.size : Int)) aw ?_)
  obtain ⟨kc, H⟩ := H
  refine W.opS (OpIs.ixT (k := .i64) (s := c) (i := (wi (a + e))) (by kernel_rfl) kc aw) ?_
  refine W.gt ((wi (a + e)) < (c.size : Int)) aw ?_
  refine W.adv 1 (W.opS (O.pk (decide ((wi (a + e)) < (c.size : Int))) true (.bool (!(decide ((letter c (wi (a + e))) = 10)))) (.bool false) (decide_eq_true aw)) ?_)
  refine W.adv 2 ?_
  rcases H with ⟨d0, H⟩ | ⟨d0, H⟩
  ·refine W.cb false (!(decide ((letter c (wi (a + e))) = 10))) (congrArg (fun b => !b) (decide_eq_true d0)) ?_
   exact W.adv 14 (W.tl (H _ am))
  ·refine W.cb true (!(decide ((letter c (wi (a + e))) = 10))) (congrArg (fun b => !b) (decide_eq_false d0)) ?_
   exact W.adv 10 (W.tl (H _ am))
 ·refine W.gf ((wi (a + e)) < (c.size : Int)) aw ?_
  refine W.gf ((wi (a + e)) < (c.size : Int)) aw ?_
  refine W.gf ((wi (a + e)) < (c.size : Int)) aw ?_
  refine W.gf ((wi (a + e)) < (c.size : Int)) aw ?_
  refine W.gf ((wi (a + e)) < (c.size : Int)) aw ?_
  refine W.gf ((wi (a + e)) < (c.size : Int)) aw ?_
  refine W.opS (O.pk (decide ((wi (a + e)) < (c.size : Int))) false (.tuple []) (.bool false) (decide_eq_false aw)) ?_
  exact W.adv 17 (W.tl (H _ am))
theorem ref19_All_l14_go (H : ((wi (a + e)) < (c.size : Int) ∧ 0 ≤ (wi (a + e)) ∧ ∃ a6, ref19_figure_R (letter c (wi (a + e))) a6 ∧ (a6 = true ∧ ref19_All_l14 c f a (wi (e + 1)) aa l p q ∨ ¬ a6 = true ∧ 0 ≤ a ∧ a ≤ (wi (a + e)) ∧ (wi (a + e)) ≤ (c.size : Int) ∧ (aa.length + 1 + 192) * (32 + 1) ≤ 70368744177664 ∧ ∃ cf, cf = aa ++ [(2, (c.extract (a).toNat (wi (a + e)).toNat), f)] ∧ ref19_All_l8 c f (wi (a + e)) cf l p q)) ∨ ¬ (wi (a + e)) < (c.size : Int) ∧ 0 ≤ a ∧ a ≤ (wi (a + e)) ∧ (wi (a + e)) ≤ (c.size : Int) ∧ (aa.length + 1 + 192) * (32 + 1) ≤ 70368744177664 ∧ ∃ cg, cg = aa ++ [(2, (c.extract (a).toNat (wi (a + e)).toNat), f)] ∧ ref19_All_l8 c f (wi (a + e)) cg l p q) : ref19_All_l14 c f a e aa l p q := by
 intro ad am j jb vs
 refine W.adv 1 (W.adv 10 ?_)
 rcases H with ⟨ay, H⟩ | ⟨ay, H⟩
 ·refine W.gt ((wi (a + e)) < (c.size : Int)) ay ?_
  refine W.adv 1 (W.gt ((wi (a + e)) < (c.size : Int)) ay ?_)
  refine W.adv 1 (W.gt ((wi (a + e)) < (c.size : Int)) ay ?_)
  refine W.adv 1 (W.gt ((wi (a + e)) < (c.size : Int)) ay ?_)
  refine W.adv 1 (W.gt ((wi (a + e)) < (c.size : Int)) ay ?_)
  obtain ⟨kd, H⟩ := H
  refine W.opS (OpIs.ixT (k := .i64) (s := c) (i := (wi (a + e))) (by kernel_rfl) kd ay) ?_
  refine W.gt ((wi (a + e)) < (c.size : Int)) ay ?_
  obtain ⟨a6, ke, H⟩ := H
  refine W.cl 33 [(.int .u8 (letter c (wi (a + e))))] (.bool a6) ke ?_
  refine W.opS (O.pk (decide ((wi (a + e)) < (c.size : Int))) true (.bool a6) (.bool false) (decide_eq_true ay)) ?_
  refine W.adv 2 ?_
  rcases H with ⟨d1, H⟩ | ⟨d1, H⟩
  ·refine W.cb true a6 d1 ?_
   exact W.adv 10 (W.tl (H _ am))
  ·refine W.cb false a6 (bfalse d1) ?_
   refine W.adv 12 ?_
   obtain ⟨kf, kg, ki, H⟩ := H
   refine W.opS (OpIs.slT_lh (k' := .i64) (k'' := .i64) (s := c) (i := a) (j := (wi (a + e))) (by kernel_rfl) kf kg ki) ?_
   refine W.adv 3 ?_
   obtain ⟨kk, H⟩ := H
   obtain ⟨cf, er, H⟩ := H
   have kl : (aa.length + 1) = cf.length := by rw [er, List.length_append] <;> rfl
   refine W.opK (O.apERow E_ref19_Token (.lit (.list 3 [(.agg [.int .i64 2, (.str (c.extract (a).toNat (wi (a + e)).toNat)), .int .i64 f])])) 32 96 ((jb 96).ver) 135 ((vs 135) + 1) ad 3 aa [(2, (c.extract (a).toNat (wi (a + e)).toNat), f)] er am kk) ?_
   exact W.adv 12 (W.tl (H _ kl))
 ·refine W.gf ((wi (a + e)) < (c.size : Int)) ay ?_
  refine W.gf ((wi (a + e)) < (c.size : Int)) ay ?_
  refine W.gf ((wi (a + e)) < (c.size : Int)) ay ?_
  refine W.gf ((wi (a + e)) < (c.size : Int)) ay ?_
  refine W.gf ((wi (a + e)) < (c.size : Int)) ay ?_
  refine W.gf ((wi (a + e)) < (c.size : Int)) ay ?_
  refine W.opS (O.pk (decide ((wi (a + e)) < (c.size : Int))) false (.tuple []) (.bool false) (decide_eq_false ay)) ?_
  refine W.adv 15 ?_
  obtain ⟨km, kn, kp, H⟩ := H
  refine W.opS (OpIs.slT_lh (k' := .i64) (k'' := .i64) (s := c) (i := a) (j := (wi (a + e))) (by kernel_rfl) km kn kp) ?_
  refine W.adv 3 ?_
  obtain ⟨kq, H⟩ := H
  obtain ⟨cg, et, H⟩ := H
  have kr : (aa.length + 1) = cg.length := by rw [et, List.length_append] <;> rfl
  refine W.opK (O.apERow E_ref19_Token (.lit (.list 3 [(.agg [.int .i64 2, (.str (c.extract (a).toNat (wi (a + e)).toNat)), .int .i64 f])])) 32 96 ((jb 96).ver) 135 ((vs 135) + 1) ad 3 aa [(2, (c.extract (a).toNat (wi (a + e)).toNat), f)] et am kq) ?_
  exact W.adv 12 (W.tl (H _ kr))
theorem ref19_All_l15_go (H : ((wi (a + e)) < (c.size : Int) ∧ 0 ≤ (wi (a + e)) ∧ (wi (a + e)) ≤ (wi ((wi (a + e)) + 1)) ∧ (wi ((wi (a + e)) + 1)) ≤ (c.size : Int) ∧ (⟨#[97]⟩ : ByteArray).size + (c.extract (wi (a + e)).toNat (wi ((wi (a + e)) + 1)).toNat).size ≤ 9223372036854775807 ∧ ∃ a7, ref17_Word_R ((⟨#[97]⟩ : ByteArray) ++ (c.extract (wi (a + e)).toNat (wi ((wi (a + e)) + 1)).toNat)) a7 ∧ (a7 = true ∧ ref19_All_l15 c f a (wi (e + 1)) aa l p q ∨ ¬ a7 = true ∧ 0 ≤ a ∧ a ≤ (wi (a + e)) ∧ (wi (a + e)) ≤ (c.size : Int) ∧ (aa.length + 1 + 192) * (32 + 1) ≤ 70368744177664 ∧ ∃ ci, ci = aa ++ [(1, (c.extract (a).toNat (wi (a + e)).toNat), f)] ∧ ref19_All_l9 c f (wi (a + e)) ci l p q)) ∨ ¬ (wi (a + e)) < (c.size : Int) ∧ 0 ≤ a ∧ a ≤ (wi (a + e)) ∧ (wi (a + e)) ≤ (c.size : Int) ∧ (aa.length + 1 + 192) * (32 + 1) ≤ 70368744177664 ∧ ∃ ck, ck = aa ++ [(1, (c.extract (a).toNat (wi (a + e)).toNat), f)] ∧ ref19_All_l9 c f (wi (a + e)) ck l p q) : ref19_All_l15 c f a e aa l p q := by
 intro ad am j jb vs
 refine W.adv 1 (W.adv 10 ?_)
 rcases H with ⟨ai, H⟩ | ⟨ai, H⟩
 ·refine W.gt ((wi (a + e)) < (c.size : Int)) ai ?_
  refine W.adv 1 (W.gt ((wi (a + e)) < (c.size : Int)) ai ?_)
  refine W.adv 1 (W.gt ((wi (a + e)) < (c.size : Int)) ai ?_)
  refine W.adv 1 (W.gt ((wi (a + e)) < (c.size : Int)) ai ?_)
  refine W.adv 1 (W.gt ((wi (a + e)) < (c.size : Int)) ai ?_)
  refine W.adv 1 (W.gt ((wi (a + e)) < (c.size : Int)) ai ?_)
  refine W.adv 1 (W.gt ((wi (a + e)) < (c.size : Int)) ai ?_)
  refine W.adv 1 (W.gt ((wi (a + e)) < (c.size : Int)) ai ?_)
  refine W.adv 1 (W.gt ((wi (a + e)) < (c.size : Int)) ai ?_)
  obtain ⟨ks, kt, ku, H⟩ := H
  refine W.opS (OpIs.slT_lh (k' := .i64) (k'' := .i64) (s := c) (i := (wi (a + e))) (j := (wi ((wi (a + e)) + 1))) (by kernel_rfl) ks kt ku) ?_
  refine W.gt ((wi (a + e)) < (c.size : Int)) ai ?_
  obtain ⟨kv, H⟩ := H
  refine W.opS (OpIs.bn (op := .add) (x := (.str ⟨#[97]⟩)) (y := (.str (c.extract (wi (a + e)).toNat (wi ((wi (a + e)) + 1)).toNat))) (by kernel_rfl) (addS kv)) ?_
  refine W.gt ((wi (a + e)) < (c.size : Int)) ai ?_
  obtain ⟨a7, kw, H⟩ := H
  refine W.cl 34 [(.str ((⟨#[97]⟩ : ByteArray) ++ (c.extract (wi (a + e)).toNat (wi ((wi (a + e)) + 1)).toNat)))] (.bool a7) kw ?_
  refine W.opS (O.pk (decide ((wi (a + e)) < (c.size : Int))) true (.bool a7) (.bool false) (decide_eq_true ai)) ?_
  refine W.adv 2 ?_
  rcases H with ⟨d2, H⟩ | ⟨d2, H⟩
  ·refine W.cb true a7 d2 ?_
   exact W.adv 10 (W.tl (H _ am))
  ·refine W.cb false a7 (bfalse d2) ?_
   refine W.adv 12 ?_
   obtain ⟨ky, kz, k0, H⟩ := H
   refine W.opS (OpIs.slT_lh (k' := .i64) (k'' := .i64) (s := c) (i := a) (j := (wi (a + e))) (by kernel_rfl) ky kz k0) ?_
   refine W.adv 3 ?_
   obtain ⟨k1, H⟩ := H
   obtain ⟨ci, eu, H⟩ := H
   have k2 : (aa.length + 1) = ci.length := by rw [eu, List.length_append] <;> rfl
   refine W.opK (O.apERow E_ref19_Token (.lit (.list 3 [(.agg [.int .i64 1, (.str (c.extract (a).toNat (wi (a + e)).toNat)), .int .i64 f])])) 32 135 ((vs 135) + 1) 135 ((vs 135) + 1) ad 3 aa [(1, (c.extract (a).toNat (wi (a + e)).toNat), f)] eu am k1) ?_
   exact W.adv 12 (W.tl (H _ k2))
 ·refine W.gf ((wi (a + e)) < (c.size : Int)) ai ?_
  refine W.gf ((wi (a + e)) < (c.size : Int)) ai ?_
  refine W.gf ((wi (a + e)) < (c.size : Int)) ai ?_
  refine W.gf ((wi (a + e)) < (c.size : Int)) ai ?_
  refine W.gf ((wi (a + e)) < (c.size : Int)) ai ?_
  refine W.gf ((wi (a + e)) < (c.size : Int)) ai ?_
  refine W.gf ((wi (a + e)) < (c.size : Int)) ai ?_
  refine W.gf ((wi (a + e)) < (c.size : Int)) ai ?_
  refine W.gf ((wi (a + e)) < (c.size : Int)) ai ?_
  refine W.gf ((wi (a + e)) < (c.size : Int)) ai ?_
  refine W.gf ((wi (a + e)) < (c.size : Int)) ai ?_
  refine W.opS (O.pk (decide ((wi (a + e)) < (c.size : Int))) false (.tuple []) (.bool false) (decide_eq_false ai)) ?_
  refine W.adv 15 ?_
  obtain ⟨k3, k4, k5, H⟩ := H
  refine W.opS (OpIs.slT_lh (k' := .i64) (k'' := .i64) (s := c) (i := a) (j := (wi (a + e))) (by kernel_rfl) k3 k4 k5) ?_
  refine W.adv 3 ?_
  obtain ⟨k6, H⟩ := H
  obtain ⟨ck, ev, H⟩ := H
  have k7 : (aa.length + 1) = ck.length := by rw [ev, List.length_append] <;> rfl
  refine W.opK (O.apERow E_ref19_Token (.lit (.list 3 [(.agg [.int .i64 1, (.str (c.extract (a).toNat (wi (a + e)).toNat)), .int .i64 f])])) 32 135 ((vs 135) + 1) 135 ((vs 135) + 1) ad 3 aa [(1, (c.extract (a).toNat (wi (a + e)).toNat), f)] ev am k6) ?_
  exact W.adv 12 (W.tl (H _ k7))
theorem ref19_All_go (H : ref19_All_l0 cq 1 0 l p q) : ref19_All_R cq l p q := by
 refine W.ii Try.func14 ?_
 exact W.adv 21 (W.tl H)
end
end Go.Proofs.YtlpbmajbalenjaaA
