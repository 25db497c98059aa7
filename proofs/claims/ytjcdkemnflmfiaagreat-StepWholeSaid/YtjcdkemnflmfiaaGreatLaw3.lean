/- What a law's function is handed: values of the types of its parameters, opened. -/
import Derived.Test.YtjcdkemnflmfiaaGreatLaw0
import Derived.Test.YtjcdkemnflmfiaaGreatW0
set_option linter.unusedVariables false
set_option maxRecDepth 100000
namespace Go.Proofs.YtjcdkemnflmfiaaGreatA
open Go Go.Proofs
theorem ty_listG {P : Program} {n : Nat} {t e sz : Nat} {d : D} {τ : Type} {enc : τ → D} {G : τ → Prop} (ht : P.underlying t = some (.slice e)) (he : ∀ k, P.underlying e ≠ some (.int k)) (hc : P.cellsOf e = sz)
  (hx : ∀ d, TyD P n e d → ∃ x, d = enc x ∧ G x) (h : TyD P (n + 1) t d) : ∃ L : List τ, d = .list sz (L.map enc) ∧ L.length ≤ maxLen ∧ ∀ x ∈ L, G x := by
 have h' : ∃ xs : List D, d = .list (P.cellsOf e) xs ∧ xs.length ≤ maxLen ∧ ∀ x ∈ xs, TyD P n e x := by
  unfold TyD at h
  simpa only [ht] using h
 obtain ⟨xs, rfl, hl, hxs⟩ := h'
 have key : ∀ xs : List D, (∀ x ∈ xs, TyD P n e x) → ∃ L : List τ, xs = L.map enc ∧ ∀ x ∈ L, G x := by
  intro xs
  induction xs with
  | nil => exact fun _ => ⟨[], rfl, fun m hm => by cases hm⟩
  | cons x xs ih =>
   intro hx'
   obtain ⟨L, rfl, h2⟩ := ih (fun y hy => hx' y (List.mem_cons_of_mem _ hy))
   obtain ⟨y, rfl, h3⟩ := hx x (hx' x (List.mem_cons_self ..))
   refine ⟨y :: L, rfl, fun m hm => ?_⟩
   rcases List.mem_cons.1 hm with rfl | hm
   ·exact h3
   ·exact h2 m hm
 obtain ⟨L, rfl, h2⟩ := key xs hxs
 rw [hc]
 exact ⟨L, rfl, by rw [List.length_map] at hl; exact hl, h2⟩
abbrev T_api_Int : Type := Bool × (List Int)
def E_api_Int (p : T_api_Int) : D := .agg [(.bool p.1), (.ints .u64 p.2)]
theorem E_api_Int_t (p : T_api_Int) : (E_api_Int p).cells.all (D.isT 2) = true := rfl
theorem ty9 {n : Nat} {d : D} (h : TyD Tryz.prog (n + 1) 9 d) : ∃ x : ByteArray, d = (.str x) ∧ (x.size ≤ maxLen) := by
 obtain ⟨x, h1, h2⟩ := ty_str Tryz.underlying9 h
 exact ⟨x, h1, h2⟩
theorem ty58 {n : Nat} {d : D} (h : TyD Tryz.prog (n + 1) 58 d) : ∃ x : Int, d = (.int .u32 x) ∧ ((Lit.int .u32 x).wf = true) := by
 obtain ⟨x, h1, h2⟩ := ty_int Tryz.underlying58 h
 exact ⟨x, h1, h2⟩
theorem ty3 {n : Nat} {d : D} (h : TyD Tryz.prog (n + 1) 3 d) : ∃ x : Int, d = (.int .i64 x) ∧ ((Lit.int .i64 x).wf = true) := by
 obtain ⟨x, h1, h2⟩ := ty_int Tryz.underlying3 h
 exact ⟨x, h1, h2⟩
def G60 (x : T_api_Prefix) : Prop := ((Lit.int .u32 x.1).wf = true) ∧ ((Lit.int .i64 x.2).wf = true)
theorem ty60 {n : Nat} {d : D} (h : TyD Tryz.prog (n + 2) 60 d) : ∃ x : T_api_Prefix, d = (E_api_Prefix x) ∧ (G60 x) := by
 unfold TyD at h
 simp only [Tryz.underlying60] at h
 obtain ⟨ps, rfl, hl, hx⟩ := h
 match ps, hl with
 | [p0, p1], _ =>
  obtain ⟨x0, rfl, g0⟩ := ty58 (n := n) (hx 0 _ p0 rfl rfl)
  obtain ⟨x1, rfl, g1⟩ := ty3 (n := n) (hx 1 _ p1 rfl rfl)
  exact ⟨(x0, x1), rfl, ⟨g0, g1⟩⟩
theorem ty83 {n : Nat} {d : D} (h : TyD Tryz.prog (n + 3) 83 d) : ∃ x : List T_api_Prefix, d = (.list 2 (List.map E_api_Prefix x)) ∧ (x.length ≤ maxLen ∧ ∀ y ∈ x, (G60 y)) := by
 exact ty_listG (P := Tryz.prog) (n := n + 2) (enc := E_api_Prefix) (G := fun (y : T_api_Prefix) => (G60 y)) Tryz.underlying83 (by rw [Tryz.underlying60]; intro k hk; cases hk) (by kernel_rfl) (fun d hd => ty60 (n := n) hd) h
def G98 (x : T_api_Node) : Prop := (x.1.size ≤ maxLen) ∧ (x.2.length ≤ maxLen ∧ ∀ y ∈ x.2, (G60 y))
theorem ty98 {n : Nat} {d : D} (h : TyD Tryz.prog (n + 4) 98 d) : ∃ x : T_api_Node, d = (E_api_Node x) ∧ (G98 x) := by
 unfold TyD at h
 simp only [Tryz.underlying98] at h
 obtain ⟨ps, rfl, hl, hx⟩ := h
 match ps, hl with
 | [p0, p1], _ =>
  obtain ⟨x0, rfl, g0⟩ := ty9 (n := n + 2) (hx 0 _ p0 rfl rfl)
  obtain ⟨x1, rfl, g1⟩ := ty83 (n := n) (hx 1 _ p1 rfl rfl)
  exact ⟨(x0, x1), rfl, ⟨g0, g1⟩⟩
theorem ty23 {n : Nat} {d : D} (h : TyD Tryz.prog (n + 5) 23 d) : ∃ x : List T_api_Node, d = (.list 2 (List.map E_api_Node x)) ∧ (x.length ≤ maxLen ∧ ∀ y ∈ x, (G98 y)) := by
 exact ty_listG (P := Tryz.prog) (n := n + 4) (enc := E_api_Node) (G := fun (y : T_api_Node) => (G98 y)) Tryz.underlying23 (by rw [Tryz.underlying98]; intro k hk; cases hk) (by kernel_rfl) (fun d hd => ty98 (n := n) hd) h
theorem ty4 {n : Nat} {d : D} (h : TyD Tryz.prog (n + 1) 4 d) : ∃ x : Bool, d = (.bool x) ∧ True := by
 obtain ⟨x, h1⟩ := ty_bool Tryz.underlying4 h
 exact ⟨x, h1, trivial⟩
theorem ty34 {n : Nat} {d : D} (h : TyD Tryz.prog (n + 1) 34 d) : ∃ x : List Int, d = (.ints .u64 x) ∧ (x.length ≤ maxLen ∧ ∀ i ∈ x, (Lit.int .u64 i).wf = true) := by
 obtain ⟨x, h1, h2⟩ := ty_ints Tryz.underlying34 Tryz.underlying162 h
 exact ⟨x, h1, h2⟩
def G36 (x : T_api_Int) : Prop := True ∧ (x.2.length ≤ maxLen ∧ ∀ i ∈ x.2, (Lit.int .u64 i).wf = true)
theorem ty36 {n : Nat} {d : D} (h : TyD Tryz.prog (n + 2) 36 d) : ∃ x : T_api_Int, d = (E_api_Int x) ∧ (G36 x) := by
 unfold TyD at h
 simp only [Tryz.underlying36] at h
 obtain ⟨ps, rfl, hl, hx⟩ := h
 match ps, hl with
 | [p0, p1], _ =>
  obtain ⟨x0, rfl, g0⟩ := ty4 (n := n) (hx 0 _ p0 rfl rfl)
  obtain ⟨x1, rfl, g1⟩ := ty34 (n := n) (hx 1 _ p1 rfl rfl)
  exact ⟨(x0, x1), rfl, ⟨g0, g1⟩⟩
def G38 (x : T_api_Rat) : Prop := (G36 (x.1, x.2.1)) ∧ (x.2.2.length ≤ maxLen ∧ ∀ i ∈ x.2.2, (Lit.int .u64 i).wf = true)
theorem ty38 {n : Nat} {d : D} (h : TyD Tryz.prog (n + 3) 38 d) : ∃ x : T_api_Rat, d = (E_api_Rat x) ∧ (G38 x) := by
 unfold TyD at h
 simp only [Tryz.underlying38] at h
 obtain ⟨ps, rfl, hl, hx⟩ := h
 match ps, hl with
 | [p0, p1], _ =>
  obtain ⟨x0, rfl, g0⟩ := ty36 (n := n) (hx 0 _ p0 rfl rfl)
  obtain ⟨x1, rfl, g1⟩ := ty34 (n := n + 1) (hx 1 _ p1 rfl rfl)
  exact ⟨(x0.1, x0.2, x1), rfl, ⟨g0, g1⟩⟩
def G100 (x : T_api_Link) : Prop := (x.1.size ≤ maxLen) ∧ (x.2.1.size ≤ maxLen) ∧ (x.2.2.1.size ≤ maxLen) ∧ (G38 (x.2.2.2.1, x.2.2.2.2.1, x.2.2.2.2.2))
theorem ty100 {n : Nat} {d : D} (h : TyD Tryz.prog (n + 4) 100 d) : ∃ x : T_api_Link, d = (E_api_Link x) ∧ (G100 x) := by
 unfold TyD at h
 simp only [Tryz.underlying100] at h
 obtain ⟨ps, rfl, hl, hx⟩ := h
 match ps, hl with
 | [p0, p1, p2, p3], _ =>
  obtain ⟨x0, rfl, g0⟩ := ty9 (n := n + 2) (hx 0 _ p0 rfl rfl)
  obtain ⟨x1, rfl, g1⟩ := ty9 (n := n + 2) (hx 1 _ p1 rfl rfl)
  obtain ⟨x2, rfl, g2⟩ := ty9 (n := n + 2) (hx 2 _ p2 rfl rfl)
  obtain ⟨x3, rfl, g3⟩ := ty38 (n := n) (hx 3 _ p3 rfl rfl)
  exact ⟨(x0, x1, x2, x3.1, x3.2.1, x3.2.2), rfl, ⟨g0, g1, g2, g3⟩⟩
theorem ty24 {n : Nat} {d : D} (h : TyD Tryz.prog (n + 5) 24 d) : ∃ x : List T_api_Link, d = (.list 6 (List.map E_api_Link x)) ∧ (x.length ≤ maxLen ∧ ∀ y ∈ x, (G100 y)) := by
 exact ty_listG (P := Tryz.prog) (n := n + 4) (enc := E_api_Link) (G := fun (y : T_api_Link) => (G100 y)) Tryz.underlying24 (by rw [Tryz.underlying100]; intro k hk; cases hk) (by kernel_rfl) (fun d hd => ty100 (n := n) hd) h
def G78 (x : T_api_Hop) : Prop := (x.1.size ≤ maxLen) ∧ ((Lit.int .i64 x.2).wf = true)
theorem ty78 {n : Nat} {d : D} (h : TyD Tryz.prog (n + 2) 78 d) : ∃ x : T_api_Hop, d = (E_api_Hop x) ∧ (G78 x) := by
 unfold TyD at h
 simp only [Tryz.underlying78] at h
 obtain ⟨ps, rfl, hl, hx⟩ := h
 match ps, hl with
 | [p0, p1], _ =>
  obtain ⟨x0, rfl, g0⟩ := ty9 (n := n) (hx 0 _ p0 rfl rfl)
  obtain ⟨x1, rfl, g1⟩ := ty3 (n := n) (hx 1 _ p1 rfl rfl)
  exact ⟨(x0, x1), rfl, ⟨g0, g1⟩⟩
theorem ty71 {n : Nat} {d : D} (h : TyD Tryz.prog (n + 3) 71 d) : ∃ x : List T_api_Hop, d = (.list 2 (List.map E_api_Hop x)) ∧ (x.length ≤ maxLen ∧ ∀ y ∈ x, (G78 y)) := by
 exact ty_listG (P := Tryz.prog) (n := n + 2) (enc := E_api_Hop) (G := fun (y : T_api_Hop) => (G78 y)) Tryz.underlying71 (by rw [Tryz.underlying78]; intro k hk; cases hk) (by kernel_rfl) (fun d hd => ty78 (n := n) hd) h
theorem ty61 {n : Nat} {d : D} (h : TyD Tryz.prog (n + 4) 61 d) : ∃ x : List T71, d = (.list 1 (List.map E71 x)) ∧ (x.length ≤ maxLen ∧ ∀ y ∈ x, (y.length ≤ maxLen ∧ ∀ y' ∈ y, (G78 y'))) := by
 exact ty_listG (P := Tryz.prog) (n := n + 3) (enc := E71) (G := fun (y : T71) => (y.length ≤ maxLen ∧ ∀ y' ∈ y, (G78 y'))) Tryz.underlying61 (by rw [Tryz.underlying71]; intro k hk; cases hk) (by kernel_rfl) (fun d hd => ty71 (n := n) hd) h
def G63 (x : T_api_Rule) : Prop := (x.1.size ≤ maxLen) ∧ (G60 (x.2.1, x.2.2.1)) ∧ True ∧ (x.2.2.2.2.length ≤ maxLen ∧ ∀ y ∈ x.2.2.2.2, (y.length ≤ maxLen ∧ ∀ y' ∈ y, (G78 y')))
theorem ty63 {n : Nat} {d : D} (h : TyD Tryz.prog (n + 5) 63 d) : ∃ x : T_api_Rule, d = (E_api_Rule x) ∧ (G63 x) := by
 unfold TyD at h
 simp only [Tryz.underlying63] at h
 obtain ⟨ps, rfl, hl, hx⟩ := h
 match ps, hl with
 | [p0, p1, p2, p3], _ =>
  obtain ⟨x0, rfl, g0⟩ := ty9 (n := n + 3) (hx 0 _ p0 rfl rfl)
  obtain ⟨x1, rfl, g1⟩ := ty60 (n := n + 2) (hx 1 _ p1 rfl rfl)
  obtain ⟨x2, rfl, g2⟩ := ty4 (n := n + 3) (hx 2 _ p2 rfl rfl)
  obtain ⟨x3, rfl, g3⟩ := ty61 (n := n) (hx 3 _ p3 rfl rfl)
  exact ⟨(x0, x1.1, x1.2, x2, x3), rfl, ⟨g0, g1, g2, g3⟩⟩
theorem ty25 {n : Nat} {d : D} (h : TyD Tryz.prog (n + 6) 25 d) : ∃ x : List T_api_Rule, d = (.list 5 (List.map E_api_Rule x)) ∧ (x.length ≤ maxLen ∧ ∀ y ∈ x, (G63 y)) := by
 exact ty_listG (P := Tryz.prog) (n := n + 5) (enc := E_api_Rule) (G := fun (y : T_api_Rule) => (G63 y)) Tryz.underlying25 (by rw [Tryz.underlying63]; intro k hk; cases hk) (by kernel_rfl) (fun d hd => ty63 (n := n) hd) h
def G27 (x : T_api_Net) : Prop := (x.1.size ≤ maxLen) ∧ (x.2.1.length ≤ maxLen ∧ ∀ y ∈ x.2.1, (G98 y)) ∧ (x.2.2.1.length ≤ maxLen ∧ ∀ y ∈ x.2.2.1, (G100 y)) ∧ (x.2.2.2.length ≤ maxLen ∧ ∀ y ∈ x.2.2.2, (G63 y))
theorem ty27 {n : Nat} {d : D} (h : TyD Tryz.prog (n + 7) 27 d) : ∃ x : T_api_Net, d = (E_api_Net x) ∧ (G27 x) := by
 unfold TyD at h
 simp only [Tryz.underlying27] at h
 obtain ⟨ps, rfl, hl, hx⟩ := h
 match ps, hl with
 | [p0, p1, p2, p3], _ =>
  obtain ⟨x0, rfl, g0⟩ := ty9 (n := n + 5) (hx 0 _ p0 rfl rfl)
  obtain ⟨x1, rfl, g1⟩ := ty23 (n := n + 1) (hx 1 _ p1 rfl rfl)
  obtain ⟨x2, rfl, g2⟩ := ty24 (n := n + 1) (hx 2 _ p2 rfl rfl)
  obtain ⟨x3, rfl, g3⟩ := ty25 (n := n) (hx 3 _ p3 rfl rfl)
  exact ⟨(x0, x1, x2, x3), rfl, ⟨g0, g1, g2, g3⟩⟩
theorem ty22 {n : Nat} {d : D} (h : TyD Tryz.prog (n + 8) 22 d) : ∃ x : List T_api_Net, d = (.list 4 (List.map E_api_Net x)) ∧ (x.length ≤ maxLen ∧ ∀ y ∈ x, (G27 y)) := by
 exact ty_listG (P := Tryz.prog) (n := n + 7) (enc := E_api_Net) (G := fun (y : T_api_Net) => (G27 y)) Tryz.underlying22 (by rw [Tryz.underlying27]; intro k hk; cases hk) (by kernel_rfl) (fun d hd => ty27 (n := n) hd) h
end Go.Proofs.YtjcdkemnflmfiaaGreatA
