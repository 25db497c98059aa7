/- What a law's function is handed: values of the types of its parameters. -/
import Derived.Test.YtlpbmajbalenjaaFine
import Derived.WalkKit
import Derived.ProofKit
import Derived.OpenShut
import Derived.ShutString
import Derived.ChangeOld
import Derived.Below
import Derived.SizedLaws
set_option linter.unusedVariables false
namespace Go.Proofs.YtlpbmajbalenjaaA
open Go Go.Proofs
theorem C_P : C.P = Try.prog := by kernel_rfl
theorem typed_C {ts : List TypeId} {zs : List D} (h : Typed C.P ts zs) : Typed Try.prog ts zs := by rw [C_P] at h; exact h
theorem ty_bool {P : Program} {n : Nat} {t : TypeId} {d : D} (ht : P.underlying t = some .bool) (h : TyD P (n + 1) t d) : ∃ b, d = .bool b := by
 simp only [TyD, ht] at h; exact h
theorem ty_int {P : Program} {n : Nat} {t : TypeId} {k : IntKind} {d : D} (ht : P.underlying t = some (.int k)) (h : TyD P (n + 1) t d) : ∃ m, d = .int k m ∧ (Lit.int k m).wf = true := by
 simp only [TyD, ht] at h; exact h
theorem ty_str {P : Program} {n : Nat} {t : TypeId} {d : D} (ht : P.underlying t = some .string) (h : TyD P (n + 1) t d) : ∃ s, d = .str s ∧ s.size ≤ maxLen := by
 simp only [TyD, ht] at h; exact h
theorem ty_ints {P : Program} {n : Nat} {t e : TypeId} {k : IntKind} {d : D} (ht : P.underlying t = some (.slice e)) (he : P.underlying e = some (.int k)) (h : TyD P (n + 1) t d) : ∃ xs, d = .ints k xs ∧ xs.length ≤ maxLen ∧ ∀ x ∈ xs, (Lit.int k x).wf = true := by
 simp only [TyD, ht, he] at h; exact h
theorem ty_lists {P : Program} {n : Nat} {t e e2 : TypeId} {k : IntKind} {d : D} (ht : P.underlying t = some (.slice e)) (he : P.underlying e = some (.slice e2)) (he2 : P.underlying e2 = some (.int k)) (hc : P.cellsOf e = 1) (h : TyD P (n + 2) t d) :
  ∃ L : List (List Int), d = .list 1 (L.map (D.ints k)) ∧ L.length ≤ maxLen ∧ ∀ m ∈ L, m.length ≤ maxLen ∧ ∀ x ∈ m, (Lit.int k x).wf = true := by
 simp only [TyD, ht, he, he2] at h
 obtain ⟨xs, rfl, hl, hx⟩ := h
 have key : ∀ xs : List D, (∀ x ∈ xs, ∃ ys, x = .ints k ys ∧ ys.length ≤ maxLen ∧ ∀ y ∈ ys, (Lit.int k y).wf = true) → ∃ L : List (List Int), xs = L.map (D.ints k) ∧ ∀ m ∈ L, m.length ≤ maxLen ∧ ∀ x ∈ m, (Lit.int k x).wf = true := by
  intro xs
  induction xs with
  | nil => exact fun _ => ⟨[], rfl, fun m hm => by cases hm⟩
  | cons x xs ih =>
   intro hx
   obtain ⟨L, rfl, h2⟩ := ih (fun y hy => hx y (List.mem_cons_of_mem _ hy))
   obtain ⟨ys, rfl, h3⟩ := hx x (List.mem_cons_self ..)
   refine ⟨ys :: L, rfl, fun m hm => ?_⟩
   rcases List.mem_cons.1 hm with rfl | hm
   ·exact h3
   ·exact h2 m hm
 obtain ⟨L, rfl, h2⟩ := key xs hx
 rw [hc]
 exact ⟨L, rfl, by rw [List.length_map] at hl; exact hl, h2⟩
theorem typed1 {P : Program} {t : TypeId} {zs : List D} (h : Typed P [t] zs) : ∃ d, zs = [d] ∧ TyD P 8 t d := by
 obtain ⟨h1, h2⟩ := h
 match zs, h1 with
 | [d], _ => exact ⟨d, rfl, h2 0 t d rfl rfl⟩
theorem typed2 {P : Program} {t u : TypeId} {zs : List D} (h : Typed P [t, u] zs) : ∃ d e, zs = [d, e] ∧ TyD P 8 t d ∧ TyD P 8 u e := by
 obtain ⟨h1, h2⟩ := h
 match zs, h1 with
 | [d, e], _ => exact ⟨d, e, rfl, h2 0 t d rfl rfl, h2 1 u e rfl rfl⟩
theorem typed3 {P : Program} {t u v : TypeId} {zs : List D} (h : Typed P [t, u, v] zs) : ∃ d e g, zs = [d, e, g] ∧ TyD P 8 t d ∧ TyD P 8 u e ∧ TyD P 8 v g := by
 obtain ⟨h1, h2⟩ := h
 match zs, h1 with
 | [d, e, g], _ => exact ⟨d, e, g, rfl, h2 0 t d rfl rfl, h2 1 u e rfl rfl, h2 2 v g rfl rfl⟩
theorem typed4 {P : Program} {t u v w : TypeId} {zs : List D} (h : Typed P [t, u, v, w] zs) : ∃ d e g i, zs = [d, e, g, i] ∧ TyD P 8 t d ∧ TyD P 8 u e ∧ TyD P 8 v g ∧ TyD P 8 w i := by
 obtain ⟨h1, h2⟩ := h
 match zs, h1 with
 | [d, e, g, i], _ => exact ⟨d, e, g, i, rfl, h2 0 t d rfl rfl, h2 1 u e rfl rfl, h2 2 v g rfl rfl, h2 3 w i rfl rfl⟩
theorem typed5 {P : Program} {t u v w o : TypeId} {zs : List D} (h : Typed P [t, u, v, w, o] zs) : ∃ d e g i j, zs = [d, e, g, i, j] ∧ TyD P 8 t d ∧ TyD P 8 u e ∧ TyD P 8 v g ∧ TyD P 8 w i ∧ TyD P 8 o j := by
 obtain ⟨h1, h2⟩ := h
 match zs, h1 with
 | [d, e, g, i, j], _ => exact ⟨d, e, g, i, j, rfl, h2 0 t d rfl rfl, h2 1 u e rfl rfl, h2 2 v g rfl rfl, h2 3 w i rfl rfl, h2 4 o j rfl rfl⟩
theorem wf_nn {x : Int} (h : (Lit.int .u64 x).wf = true) : 0 ≤ x := by
 simp [Lit.wf, IntKind.min, IntKind.max, IntKind.signed, IntKind.bits] at h; omega
theorem ty_two {P : Program} {n : Nat} {t : TypeId} {f0 f1 : Field} {d : D} (ht : P.underlying t = some (.struct #[f0, f1])) (h : TyD P (n + 1) t d) : ∃ p q, d = .agg (p.cells ++ q.cells) ∧ TyD P n f0.type p ∧ TyD P n f1.type q := by
 simp only [TyD, ht] at h
 obtain ⟨ps, rfl, hl, hp⟩ := h
 match ps, hl with
 | [p, q], _ => exact ⟨p, q, by simp, hp 0 f0 p rfl rfl, hp 1 f1 q rfl rfl⟩
theorem ty_word {P : Program} {n : Nat} {t e : TypeId} {d : D} (ht : P.underlying t = some (.slice e)) (he : P.underlying e = some (.int .u64)) (h : TyD P (n + 1) t d) : ∃ l, d = .ints .u64 l ∧ l.length ≤ 9223372036854775807 ∧ ∀ x ∈ l, 0 ≤ x := by
 obtain ⟨l, rfl, h1, h2⟩ := ty_ints ht he h
 exact ⟨l, rfl, Nat.le_trans h1 (by decide), fun x hx => wf_nn (h2 x hx)⟩
theorem ty_whole {P : Program} {n : Nat} {t e : TypeId} {f0 f1 : Field} {d : D} (ht : P.underlying t = some (.struct #[f0, f1])) (h0 : P.underlying f0.type = some .bool) (h1 : P.underlying f1.type = some (.slice e)) (he : P.underlying e = some (.int .u64)) (h : TyD P (n + 2) t d) :
  ∃ b l, d = .agg [.bool b, .ints .u64 l] ∧ l.length ≤ 9223372036854775807 ∧ ∀ x ∈ l, 0 ≤ x := by
 obtain ⟨p, q, rfl, hp, hq⟩ := ty_two ht h
 obtain ⟨b, rfl⟩ := ty_bool h0 hp
 obtain ⟨l, rfl, g1, g2⟩ := ty_word h1 he hq
 exact ⟨b, l, rfl, g1, g2⟩
theorem ty_rat {P : Program} {n : Nat} {t e : TypeId} {f0 f1 g0 g1 : Field} {d : D} (ht : P.underlying t = some (.struct #[g0, g1])) (hi : P.underlying g0.type = some (.struct #[f0, f1])) (h0 : P.underlying f0.type = some .bool) (h1 : P.underlying f1.type = some (.slice e)) (hd : P.underlying g1.type = some (.slice e)) (he : P.underlying e = some (.int .u64)) (h : TyD P (n + 3) t d) :
  ∃ b l m, d = .agg [.bool b, .ints .u64 l, .ints .u64 m] ∧ (l.length ≤ 9223372036854775807 ∧ ∀ x ∈ l, 0 ≤ x) ∧ m.length ≤ 9223372036854775807 ∧ ∀ x ∈ m, 0 ≤ x := by
 obtain ⟨p, q, rfl, hp, hq⟩ := ty_two ht h
 obtain ⟨b, l, rfl, k⟩ := ty_whole hi h0 h1 he hp
 obtain ⟨m, rfl, k'⟩ := ty_word hd he hq
 exact ⟨b, l, m, rfl, k, k'⟩
end Go.Proofs.YtlpbmajbalenjaaA
