/- Walks through the functions: what makes each relation true. -/
import Derived.Test.YtlpbmajbalenjaaW0
set_option linter.unusedVariables false
set_option maxRecDepth 100000
namespace Go.Proofs.YtlpbmajbalenjaaA
open Go Go.Proofs
theorem lex_kind_go {a c : Int} {e : ByteArray} (H : ∃ f, strings_IndexByte_R (⟨#[97, 98, 99, 100, 101, 102, 103, 104, 105, 106, 107, 108, 109, 110, 111, 112, 113, 114, 115, 116, 117, 118, 119, 120, 121, 122]⟩) a f ∧ (0 ≤ f ∧ c = 1 ∧ e = ⟨#[97, 98, 99, 100, 101, 102, 103, 104, 105, 106, 107, 108, 109, 110, 111, 112, 113, 114, 115, 116, 117, 118, 119, 120, 121, 122, 48, 49, 50, 51, 52, 53, 54, 55, 56, 57, 45, 95]⟩ ∨ ¬ 0 ≤ f ∧ (48 ≤ a ∧ (a ≤ 57 ∧ c = 2 ∧ e = ⟨#[48, 49, 50, 51, 52, 53, 54, 55, 56, 57, 46, 47, 37]⟩ ∨ ¬ a ≤ 57 ∧ ∃ i, strings_IndexByte_R (⟨#[123, 125, 59, 44, 42]⟩) a i ∧ (0 ≤ i ∧ c = 3 ∧ e = ⟨#[]⟩ ∨ ¬ 0 ≤ i ∧ c = 0 ∧ e = ⟨#[]⟩)) ∨ ¬ 48 ≤ a ∧ ∃ k, strings_IndexByte_R (⟨#[123, 125, 59, 44, 42]⟩) a k ∧ (0 ≤ k ∧ c = 3 ∧ e = ⟨#[]⟩ ∨ ¬ 0 ≤ k ∧ c = 0 ∧ e = ⟨#[]⟩)))) : lex_kind_R a c e := by
 refine W.ii Try.func43 ?_
 refine W.adv 11 ?_
 obtain ⟨f, s, H⟩ := H
 refine W.cl 44 [.str ⟨#[97, 98, 99, 100, 101, 102, 103, 104, 105, 106, 107, 108, 109, 110, 111, 112, 113, 114, 115, 116, 117, 118, 119, 120, 121, 122]⟩, .int .u8 a] (.int .i64 f) s ?_
 refine W.adv 4 ?_
 rcases H with ⟨m, H⟩ | ⟨m, H⟩
 ·refine W.ct (0 ≤ f) m ?_
  exact W.adv 9 (W.fr (Ans.o (.tuple [.int .i64 1, .str ⟨#[97, 98, 99, 100, 101, 102, 103, 104, 105, 106, 107, 108, 109, 110, 111, 112, 113, 114, 115, 116, 117, 118, 119, 120, 121, 122, 48, 49, 50, 51, 52, 53, 54, 55, 56, 57, 45, 95]⟩]) (by rw [H.1, H.2])))
 ·refine W.cf (0 ≤ f) m ?_
  refine W.adv 5 ?_
  rcases H with ⟨l, H⟩ | ⟨l, H⟩
  ·refine W.gt (48 ≤ a) l ?_
   refine W.adv 1 (W.gt (48 ≤ a) l ?_)
   refine W.adv 1 (W.opS (O.pk (decide (48 ≤ a)) true (.bool (decide (a ≤ 57))) (.bool false) (decide_eq_true l)) ?_)
   refine W.adv 3 ?_
   rcases H with ⟨n, H⟩ | ⟨n, H⟩
   ·refine W.ct (a ≤ 57) n ?_
    exact W.adv 9 (W.fr (Ans.o (.tuple [.int .i64 2, .str ⟨#[48, 49, 50, 51, 52, 53, 54, 55, 56, 57, 46, 47, 37]⟩]) (by rw [H.1, H.2])))
   ·refine W.cf (a ≤ 57) n ?_
    refine W.adv 3 ?_
    obtain ⟨i, u, H⟩ := H
    refine W.cl 44 [.str ⟨#[123, 125, 59, 44, 42]⟩, .int .u8 a] (.int .i64 i) u ?_
    refine W.adv 4 ?_
    rcases H with ⟨p, H⟩ | ⟨p, H⟩
    ·refine W.ct (0 ≤ i) p ?_
     exact W.adv 9 (W.fr (Ans.o (.tuple [.int .i64 3, .str ⟨#[]⟩]) (by rw [H.1, H.2])))
    ·refine W.cf (0 ≤ i) p ?_
     exact W.adv 10 (W.fr (Ans.o (.tuple [.int .i64 0, .str ⟨#[]⟩]) (by rw [H.1, H.2])))
  ·refine W.gf (48 ≤ a) l ?_
   refine W.gf (48 ≤ a) l ?_
   refine W.opS (O.pk (decide (48 ≤ a)) false (.tuple []) (.bool false) (decide_eq_false l)) ?_
   refine W.adv 7 ?_
   obtain ⟨k, v, H⟩ := H
   refine W.cl 44 [.str ⟨#[123, 125, 59, 44, 42]⟩, .int .u8 a] (.int .i64 k) v ?_
   refine W.adv 4 ?_
   rcases H with ⟨q, H⟩ | ⟨q, H⟩
   ·refine W.ct (0 ≤ k) q ?_
    exact W.adv 9 (W.fr (Ans.o (.tuple [.int .i64 3, .str ⟨#[]⟩]) (by rw [H.1, H.2])))
   ·refine W.cf (0 ≤ k) q ?_
    exact W.adv 10 (W.fr (Ans.o (.tuple [.int .i64 0, .str ⟨#[]⟩]) (by rw [H.1, H.2])))
end Go.Proofs.YtlpbmajbalenjaaA
