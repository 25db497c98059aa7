/- The law of tokens: its function answers true, whatever the text. -/
import Derived.Test.YtlpbmajbalenjaaLex8
import Derived.Test.YtlpbmajbalenjaaWlaw19LexTokens
import Derived.Test.YtlpbmajbalenjaaWlaw19works
set_option linter.unusedVariables false
set_option linter.unusedSimpArgs false
set_option maxRecDepth 100000
namespace Go.Proofs.YtlpbmajbalenjaaA
open Go Go.Proofs
theorem works_is : law19_works_R true := by
 have e : lexT ⟨#[108, 105, 110, 107, 32, 108, 49, 32, 97, 32, 98, 32, 102, 97, 105, 108, 32, 49, 47, 50, 59]⟩ = (some [(1, ⟨#[108, 105, 110, 107]⟩, 1), (1, ⟨#[108, 49]⟩, 1), (1, ⟨#[97]⟩, 1), (1, ⟨#[98]⟩, 1), (1, ⟨#[102, 97, 105, 108]⟩, 1), (2, ⟨#[49, 47, 50]⟩, 1), (3, ⟨#[59]⟩, 1)], 1) := by kernel_rfl
 have h := lexAll_is ⟨#[108, 105, 110, 107, 32, 108, 49, 32, 97, 32, 98, 32, 102, 97, 105, 108, 32, 49, 47, 50, 59]⟩ (by decide)
 unfold lexE at h
 rw [e] at h
 exact law19_works_go ⟨_, _, _, h, .inl ⟨rfl, .inl ⟨rfl, .inl ⟨rfl, by decide, _, _, _, rfl, .inl ⟨rfl, _, _, _, rfl, .inl ⟨rfl, by decide, _, _, _, rfl, rfl⟩⟩⟩⟩⟩⟩
theorem scan_len : ∀ (k : Nat) (l : Bs) (ln : Int) (acc : List Tk) (ts : List Tk), (scan k l ln acc).1 = some ts → ts.length ≤ acc.length + l.length
 | 0, l, ln, acc, ts, h => by cases h
 | k + 1, [], ln, acc, ts, h => by
  have := Option.some.inj h
  subst this; simp
 | k + 1, b :: t, ln, acc, ts, h => by
  have h1 := (tokLen_le b t).1
  rw [scan] at h
  split at h
  ·have := scan_len k _ _ _ ts h
   rw [List.length_drop] at this; simp at this ⊢; omega
  ·split at h
   ·cases h
   ·have := scan_len k _ _ _ ts h
    rw [List.length_drop] at this; simp at this ⊢; omega
theorem mn_is (n : Nat) : ∃ m : Nat, mn (n : Int) 400 = (m : Int) ∧ m ≤ n ∧ m ≤ 400 := by
 unfold mn
 by_cases h : (400 : Int) < (n : Int)
 ·rw [if_pos h]; exact ⟨400, rfl, by omega, by omega⟩
 ·rw [if_neg h]; exact ⟨n, rfl, by omega, by omega⟩
end Go.Proofs.YtlpbmajbalenjaaA
