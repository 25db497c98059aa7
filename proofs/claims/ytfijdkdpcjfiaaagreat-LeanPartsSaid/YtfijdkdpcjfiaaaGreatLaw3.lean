/- What a law's function is handed: values of the types of its parameters, opened. -/
import Derived.Test.YtfijdkdpcjfiaaaGreatLaw0
import Derived.Test.YtfijdkdpcjfiaaaGreatW0
set_option linter.unusedVariables false
set_option maxRecDepth 100000
namespace Go.Proofs.YtfijdkdpcjfiaaaGreatA
open Go Go.Proofs
theorem ty_listG {P : Program} {n : Nat} {t e sz : Nat} {d : D} {τ : Type} {enc : τ → D} {G : τ → Prop} (ht : P.underlying t = some (.slice e)) (he : ∀ k, P.underlying e ≠ some (.int k)) (hc : P.cellsOf e = sz)
  (hx : ∀ d, TyD P n e d → ∃ x, d = enc x ∧ G x) (h : TyD P (n + 1) t d) : ∃ L : List τ, d = .list sz (L.map enc) ∧ L.length ≤ maxLen ∧ ∀ x ∈ L, G x := by
 have h' : ∃ xs : List D, d = .list (P.cellsOf e) xs ∧ xs.length ≤ maxLen ∧ ∀ x ∈ xs, TyD P n e x := by
  unfold TyD at h
  simpa only [ht] using h
 obtain ⟨xs, rfl, hl, hxs⟩ := h'
 have key : ∀ xs : List D, (∀ x ∈ xs, TyD P n e x) → ∃ L : List τ, xs = L.map enc ∧ ∀ x ∈ L, G x := by
  intro xs
  induction xs with
  | nil => exact fun _ => ⟨[], rfl, fun m hm => by cases hm⟩
  | cons x xs ih =>
   intro hx'
   obtain ⟨L, rfl, h2⟩ := ih (fun y hy => hx' y (List.mem_cons_of_mem _ hy))
   obtain ⟨y, rfl, h3⟩ := hx x (hx' x (List.mem_cons_self ..))
   refine ⟨y :: L, rfl, fun m hm => ?_⟩
   rcases List.mem_cons.1 hm with rfl | hm
   ·exact h3
   ·exact h2 m hm
 obtain ⟨L, rfl, h2⟩ := key xs hxs
 rw [hc]
 exact ⟨L, rfl, by rw [List.length_map] at hl; exact hl, h2⟩
abbrev T_api_Rat : Type := Bool × (List Int) × (List Int)
def E_api_Rat (p : T_api_Rat) : D := .agg [(.bool p.1), (.ints .u64 p.2.1), (.ints .u64 p.2.2)]
theorem E_api_Rat_t (p : T_api_Rat) : (E_api_Rat p).cells.all (D.isT 2) = true := rfl
abbrev T_api_Int : Type := Bool × (List Int)
def E_api_Int (p : T_api_Int) : D := .agg [(.bool p.1), (.ints .u64 p.2)]
theorem E_api_Int_t (p : T_api_Int) : (E_api_Int p).cells.all (D.isT 2) = true := rfl
theorem ty9 {n : Nat} {d : D} (h : TyD Tryz.prog (n + 1) 9 d) : ∃ x : ByteArray, d = (.str x) ∧ (x.size ≤ maxLen) := by
 obtain ⟨x, h1, h2⟩ := ty_str Tryz.underlying9 h
 exact ⟨x, h1, h2⟩
theorem ty23 {n : Nat} {d : D} (h : TyD Tryz.prog (n + 1) 23 d) : ∃ x : Int, d = (.int .u32 x) ∧ ((Lit.int .u32 x).wf = true) := by
 obtain ⟨x, h1, h2⟩ := ty_int Tryz.underlying23 h
 exact ⟨x, h1, h2⟩
theorem ty3 {n : Nat} {d : D} (h : TyD Tryz.prog (n + 1) 3 d) : ∃ x : Int, d = (.int .i64 x) ∧ ((Lit.int .i64 x).wf = true) := by
 obtain ⟨x, h1, h2⟩ := ty_int Tryz.underlying3 h
 exact ⟨x, h1, h2⟩
def G25 (x : T_api_Prefix) : Prop := ((Lit.int .u32 x.1).wf = true) ∧ ((Lit.int .i64 x.2).wf = true)
theorem ty25 {n : Nat} {d : D} (h : TyD Tryz.prog (n + 2) 25 d) : ∃ x : T_api_Prefix, d = (E_api_Prefix x) ∧ (G25 x) := by
 unfold TyD at h
 simp only [Tryz.underlying25] at h
 obtain ⟨ps, rfl, hl, hx⟩ := h
 match ps, hl with
 | [p0, p1], _ =>
  obtain ⟨x0, rfl, g0⟩ := ty23 (n := n) (hx 0 _ p0 rfl rfl)
  obtain ⟨x1, rfl, g1⟩ := ty3 (n := n) (hx 1 _ p1 rfl rfl)
  exact ⟨(x0, x1), rfl, ⟨g0, g1⟩⟩
theorem ty57 {n : Nat} {d : D} (h : TyD Tryz.prog (n + 3) 57 d) : ∃ x : List T_api_Prefix, d = (.list 2 (List.map E_api_Prefix x)) ∧ (x.length ≤ maxLen ∧ ∀ y ∈ x, (G25 y)) := by
 exact ty_listG (P := Tryz.prog) (n := n + 2) (enc := E_api_Prefix) (G := fun (y : T_api_Prefix) => (G25 y)) Tryz.underlying57 (by rw [Tryz.underlying25]; intro k hk; cases hk) (by kernel_rfl) (fun d hd => ty25 (n := n) hd) h
def G59 (x : T_api_Node) : Prop := (x.1.size ≤ maxLen) ∧ (x.2.length ≤ maxLen ∧ ∀ y ∈ x.2, (G25 y))
theorem ty59 {n : Nat} {d : D} (h : TyD Tryz.prog (n + 4) 59 d) : ∃ x : T_api_Node, d = (E_api_Node x) ∧ (G59 x) := by
 unfold TyD at h
 simp only [Tryz.underlying59] at h
 obtain ⟨ps, rfl, hl, hx⟩ := h
 match ps, hl with
 | [p0, p1], _ =>
  obtain ⟨x0, rfl, g0⟩ := ty9 (n := n + 2) (hx 0 _ p0 rfl rfl)
  obtain ⟨x1, rfl, g1⟩ := ty57 (n := n) (hx 1 _ p1 rfl rfl)
  exact ⟨(x0, x1), rfl, ⟨g0, g1⟩⟩
theorem ty29 {n : Nat} {d : D} (h : TyD Tryz.prog (n + 5) 29 d) : ∃ x : List T_api_Node, d = (.list 2 (List.map E_api_Node x)) ∧ (x.length ≤ maxLen ∧ ∀ y ∈ x, (G59 y)) := by
 exact ty_listG (P := Tryz.prog) (n := n + 4) (enc := E_api_Node) (G := fun (y : T_api_Node) => (G59 y)) Tryz.underlying29 (by rw [Tryz.underlying59]; intro k hk; cases hk) (by kernel_rfl) (fun d hd => ty59 (n := n) hd) h
theorem ty4 {n : Nat} {d : D} (h : TyD Tryz.prog (n + 1) 4 d) : ∃ x : Bool, d = (.bool x) ∧ True := by
 obtain ⟨x, h1⟩ := ty_bool Tryz.underlying4 h
 exact ⟨x, h1, trivial⟩
theorem ty61 {n : Nat} {d : D} (h : TyD Tryz.prog (n + 1) 61 d) : ∃ x : List Int, d = (.ints .u64 x) ∧ (x.length ≤ maxLen ∧ ∀ i ∈ x, (Lit.int .u64 i).wf = true) := by
 obtain ⟨x, h1, h2⟩ := ty_ints Tryz.underlying61 Tryz.underlying52 h
 exact ⟨x, h1, h2⟩
def G63 (x : T_api_Int) : Prop := True ∧ (x.2.length ≤ maxLen ∧ ∀ i ∈ x.2, (Lit.int .u64 i).wf = true)
theorem ty63 {n : Nat} {d : D} (h : TyD Tryz.prog (n + 2) 63 d) : ∃ x : T_api_Int, d = (E_api_Int x) ∧ (G63 x) := by
 unfold TyD at h
 simp only [Tryz.underlying63] at h
 obtain ⟨ps, rfl, hl, hx⟩ := h
 match ps, hl with
 | [p0, p1], _ =>
  obtain ⟨x0, rfl, g0⟩ := ty4 (n := n) (hx 0 _ p0 rfl rfl)
  obtain ⟨x1, rfl, g1⟩ := ty61 (n := n) (hx 1 _ p1 rfl rfl)
  exact ⟨(x0, x1), rfl, ⟨g0, g1⟩⟩
def G65 (x : T_api_Rat) : Prop := (G63 (x.1, x.2.1)) ∧ (x.2.2.length ≤ maxLen ∧ ∀ i ∈ x.2.2, (Lit.int .u64 i).wf = true)
theorem ty65 {n : Nat} {d : D} (h : TyD Tryz.prog (n + 3) 65 d) : ∃ x : T_api_Rat, d = (E_api_Rat x) ∧ (G65 x) := by
 unfold TyD at h
 simp only [Tryz.underlying65] at h
 obtain ⟨ps, rfl, hl, hx⟩ := h
 match ps, hl with
 | [p0, p1], _ =>
  obtain ⟨x0, rfl, g0⟩ := ty63 (n := n) (hx 0 _ p0 rfl rfl)
  obtain ⟨x1, rfl, g1⟩ := ty61 (n := n + 1) (hx 1 _ p1 rfl rfl)
  exact ⟨(x0.1, x0.2, x1), rfl, ⟨g0, g1⟩⟩
def G67 (x : T_api_Link) : Prop := (x.1.size ≤ maxLen) ∧ (x.2.1.size ≤ maxLen) ∧ (x.2.2.1.size ≤ maxLen) ∧ (G65 (x.2.2.2.1, x.2.2.2.2.1, x.2.2.2.2.2))
theorem ty67 {n : Nat} {d : D} (h : TyD Tryz.prog (n + 4) 67 d) : ∃ x : T_api_Link, d = (E_api_Link x) ∧ (G67 x) := by
 unfold TyD at h
 simp only [Tryz.underlying67] at h
 obtain ⟨ps, rfl, hl, hx⟩ := h
 match ps, hl with
 | [p0, p1, p2, p3], _ =>
  obtain ⟨x0, rfl, g0⟩ := ty9 (n := n + 2) (hx 0 _ p0 rfl rfl)
  obtain ⟨x1, rfl, g1⟩ := ty9 (n := n + 2) (hx 1 _ p1 rfl rfl)
  obtain ⟨x2, rfl, g2⟩ := ty9 (n := n + 2) (hx 2 _ p2 rfl rfl)
  obtain ⟨x3, rfl, g3⟩ := ty65 (n := n) (hx 3 _ p3 rfl rfl)
  exact ⟨(x0, x1, x2, x3.1, x3.2.1, x3.2.2), rfl, ⟨g0, g1, g2, g3⟩⟩
theorem ty30 {n : Nat} {d : D} (h : TyD Tryz.prog (n + 5) 30 d) : ∃ x : List T_api_Link, d = (.list 6 (List.map E_api_Link x)) ∧ (x.length ≤ maxLen ∧ ∀ y ∈ x, (G67 y)) := by
 exact ty_listG (P := Tryz.prog) (n := n + 4) (enc := E_api_Link) (G := fun (y : T_api_Link) => (G67 y)) Tryz.underlying30 (by rw [Tryz.underlying67]; intro k hk; cases hk) (by kernel_rfl) (fun d hd => ty67 (n := n) hd) h
def G48 (x : T_api_Hop) : Prop := (x.1.size ≤ maxLen) ∧ ((Lit.int .i64 x.2).wf = true)
theorem ty48 {n : Nat} {d : D} (h : TyD Tryz.prog (n + 2) 48 d) : ∃ x : T_api_Hop, d = (E_api_Hop x) ∧ (G48 x) := by
 unfold TyD at h
 simp only [Tryz.underlying48] at h
 obtain ⟨ps, rfl, hl, hx⟩ := h
 match ps, hl with
 | [p0, p1], _ =>
  obtain ⟨x0, rfl, g0⟩ := ty9 (n := n) (hx 0 _ p0 rfl rfl)
  obtain ⟨x1, rfl, g1⟩ := ty3 (n := n) (hx 1 _ p1 rfl rfl)
  exact ⟨(x0, x1), rfl, ⟨g0, g1⟩⟩
theorem ty46 {n : Nat} {d : D} (h : TyD Tryz.prog (n + 3) 46 d) : ∃ x : List T_api_Hop, d = (.list 2 (List.map E_api_Hop x)) ∧ (x.length ≤ maxLen ∧ ∀ y ∈ x, (G48 y)) := by
 exact ty_listG (P := Tryz.prog) (n := n + 2) (enc := E_api_Hop) (G := fun (y : T_api_Hop) => (G48 y)) Tryz.underlying46 (by rw [Tryz.underlying48]; intro k hk; cases hk) (by kernel_rfl) (fun d hd => ty48 (n := n) hd) h
theorem ty26 {n : Nat} {d : D} (h : TyD Tryz.prog (n + 4) 26 d) : ∃ x : List T46, d = (.list 1 (List.map E46 x)) ∧ (x.length ≤ maxLen ∧ ∀ y ∈ x, (y.length ≤ maxLen ∧ ∀ y' ∈ y, (G48 y'))) := by
 exact ty_listG (P := Tryz.prog) (n := n + 3) (enc := E46) (G := fun (y : T46) => (y.length ≤ maxLen ∧ ∀ y' ∈ y, (G48 y'))) Tryz.underlying26 (by rw [Tryz.underlying46]; intro k hk; cases hk) (by kernel_rfl) (fun d hd => ty46 (n := n) hd) h
def G28 (x : T_api_Rule) : Prop := (x.1.size ≤ maxLen) ∧ (G25 (x.2.1, x.2.2.1)) ∧ True ∧ (x.2.2.2.2.length ≤ maxLen ∧ ∀ y ∈ x.2.2.2.2, (y.length ≤ maxLen ∧ ∀ y' ∈ y, (G48 y')))
theorem ty28 {n : Nat} {d : D} (h : TyD Tryz.prog (n + 5) 28 d) : ∃ x : T_api_Rule, d = (E_api_Rule x) ∧ (G28 x) := by
 unfold TyD at h
 simp only [Tryz.underlying28] at h
 obtain ⟨ps, rfl, hl, hx⟩ := h
 match ps, hl with
 | [p0, p1, p2, p3], _ =>
  obtain ⟨x0, rfl, g0⟩ := ty9 (n := n + 3) (hx 0 _ p0 rfl rfl)
  obtain ⟨x1, rfl, g1⟩ := ty25 (n := n + 2) (hx 1 _ p1 rfl rfl)
  obtain ⟨x2, rfl, g2⟩ := ty4 (n := n + 3) (hx 2 _ p2 rfl rfl)
  obtain ⟨x3, rfl, g3⟩ := ty26 (n := n) (hx 3 _ p3 rfl rfl)
  exact ⟨(x0, x1.1, x1.2, x2, x3), rfl, ⟨g0, g1, g2, g3⟩⟩
theorem ty31 {n : Nat} {d : D} (h : TyD Tryz.prog (n + 6) 31 d) : ∃ x : List T_api_Rule, d = (.list 5 (List.map E_api_Rule x)) ∧ (x.length ≤ maxLen ∧ ∀ y ∈ x, (G28 y)) := by
 exact ty_listG (P := Tryz.prog) (n := n + 5) (enc := E_api_Rule) (G := fun (y : T_api_Rule) => (G28 y)) Tryz.underlying31 (by rw [Tryz.underlying28]; intro k hk; cases hk) (by kernel_rfl) (fun d hd => ty28 (n := n) hd) h
def G33 (x : T_api_Net) : Prop := (x.1.size ≤ maxLen) ∧ (x.2.1.length ≤ maxLen ∧ ∀ y ∈ x.2.1, (G59 y)) ∧ (x.2.2.1.length ≤ maxLen ∧ ∀ y ∈ x.2.2.1, (G67 y)) ∧ (x.2.2.2.length ≤ maxLen ∧ ∀ y ∈ x.2.2.2, (G28 y))
theorem ty33 {n : Nat} {d : D} (h : TyD Tryz.prog (n + 7) 33 d) : ∃ x : T_api_Net, d = (E_api_Net x) ∧ (G33 x) := by
 unfold TyD at h
 simp only [Tryz.underlying33] at h
 obtain ⟨ps, rfl, hl, hx⟩ := h
 match ps, hl with
 | [p0, p1, p2, p3], _ =>
  obtain ⟨x0, rfl, g0⟩ := ty9 (n := n + 5) (hx 0 _ p0 rfl rfl)
  obtain ⟨x1, rfl, g1⟩ := ty29 (n := n + 1) (hx 1 _ p1 rfl rfl)
  obtain ⟨x2, rfl, g2⟩ := ty30 (n := n + 1) (hx 2 _ p2 rfl rfl)
  obtain ⟨x3, rfl, g3⟩ := ty31 (n := n) (hx 3 _ p3 rfl rfl)
  exact ⟨(x0, x1, x2, x3), rfl, ⟨g0, g1, g2, g3⟩⟩
theorem ty22 {n : Nat} {d : D} (h : TyD Tryz.prog (n + 8) 22 d) : ∃ x : List T_api_Net, d = (.list 4 (List.map E_api_Net x)) ∧ (x.length ≤ maxLen ∧ ∀ y ∈ x, (G33 y)) := by
 exact ty_listG (P := Tryz.prog) (n := n + 7) (enc := E_api_Net) (G := fun (y : T_api_Net) => (G33 y)) Tryz.underlying22 (by rw [Tryz.underlying33]; intro k hk; cases hk) (by kernel_rfl) (fun d hd => ty33 (n := n) hd) h
end Go.Proofs.YtfijdkdpcjfiaaaGreatA
