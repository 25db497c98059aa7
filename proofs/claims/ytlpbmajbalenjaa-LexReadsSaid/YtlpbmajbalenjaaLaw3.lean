/- What a law's function is handed: values of the types of its parameters, opened. -/
import Derived.Test.YtlpbmajbalenjaaLaw0
import Derived.Test.YtlpbmajbalenjaaW0
set_option linter.unusedVariables false
set_option maxRecDepth 100000
namespace Go.Proofs.YtlpbmajbalenjaaA
open Go Go.Proofs
theorem ty_listG {P : Program} {n : Nat} {t e sz : Nat} {d : D} {τ : Type} {enc : τ → D} {G : τ → Prop} (ht : P.underlying t = some (.slice e)) (he : ∀ k, P.underlying e ≠ some (.int k)) (hc : P.cellsOf e = sz)
  (hx : ∀ d, TyD P n e d → ∃ x, d = enc x ∧ G x) (h : TyD P (n + 1) t d) : ∃ L : List τ, d = .list sz (L.map enc) ∧ L.length ≤ maxLen ∧ ∀ x ∈ L, G x := by
 have h' : ∃ xs : List D, d = .list (P.cellsOf e) xs ∧ xs.length ≤ maxLen ∧ ∀ x ∈ xs, TyD P n e x := by
  unfold TyD at h
  simpa only [ht] using h
 obtain ⟨xs, rfl, hl, hxs⟩ := h'
 have key : ∀ xs : List D, (∀ x ∈ xs, TyD P n e x) → ∃ L : List τ, xs = L.map enc ∧ ∀ x ∈ L, G x := by
  intro xs
  induction xs with
  | nil => exact fun _ => ⟨[], rfl, fun m hm => by cases hm⟩
  | cons x xs ih =>
   intro hx'
   obtain ⟨L, rfl, h2⟩ := ih (fun y hy => hx' y (List.mem_cons_of_mem _ hy))
   obtain ⟨y, rfl, h3⟩ := hx x (hx' x (List.mem_cons_self ..))
   refine ⟨y :: L, rfl, fun m hm => ?_⟩
   rcases List.mem_cons.1 hm with rfl | hm
   ·exact h3
   ·exact h2 m hm
 obtain ⟨L, rfl, h2⟩ := key xs hxs
 rw [hc]
 exact ⟨L, rfl, by rw [List.length_map] at hl; exact hl, h2⟩
theorem ty9 {n : Nat} {d : D} (h : TyD Try.prog (n + 1) 9 d) : ∃ x : ByteArray, d = (.str x) ∧ (x.size ≤ maxLen) := by
 obtain ⟨x, h1, h2⟩ := ty_str Try.underlying9 h
 exact ⟨x, h1, h2⟩
theorem ty3 {n : Nat} {d : D} (h : TyD Try.prog (n + 1) 3 d) : ∃ x : Int, d = (.int .i64 x) ∧ ((Lit.int .i64 x).wf = true) := by
 obtain ⟨x, h1, h2⟩ := ty_int Try.underlying3 h
 exact ⟨x, h1, h2⟩
def G51 (x : T_law19_Act) : Prop := ((Lit.int .i64 x.1).wf = true) ∧ (x.2.size ≤ maxLen)
theorem ty51 {n : Nat} {d : D} (h : TyD Try.prog (n + 2) 51 d) : ∃ x : T_law19_Act, d = (E_law19_Act x) ∧ (G51 x) := by
 unfold TyD at h
 simp only [Try.underlying51] at h
 obtain ⟨ps, rfl, hl, hx⟩ := h
 match ps, hl with
 | [p0, p1], _ =>
  obtain ⟨x0, rfl, g0⟩ := ty3 (n := n) (hx 0 _ p0 rfl rfl)
  obtain ⟨x1, rfl, g1⟩ := ty9 (n := n) (hx 1 _ p1 rfl rfl)
  exact ⟨(x0, x1), rfl, ⟨g0, g1⟩⟩
theorem ty44 {n : Nat} {d : D} (h : TyD Try.prog (n + 3) 44 d) : ∃ x : List T_law19_Act, d = (.list 2 (List.map E_law19_Act x)) ∧ (x.length ≤ maxLen ∧ ∀ y ∈ x, (G51 y)) := by
 exact ty_listG (P := Try.prog) (n := n + 2) (enc := E_law19_Act) (G := fun (y : T_law19_Act) => (G51 y)) Try.underlying44 (by rw [Try.underlying51]; intro k hk; cases hk) (by kernel_rfl) (fun d hd => ty51 (n := n) hd) h
end Go.Proofs.YtlpbmajbalenjaaA
