/- Walks through the functions: what makes each relation true. -/
import Derived.Test.YtjcdkemnflmfiaaGreatW0
set_option linter.unusedVariables false
set_option maxRecDepth 100000
namespace Go.Proofs.YtjcdkemnflmfiaaGreatA
open Go Go.Proofs
section
variable (a c : List Int) (e : Nat) (s z : List Int)
noncomputable def ref02_Back_l0_s (j : Nat → D) (jb : Nat → Blk) (vs : Nat → Nat) : Cf := cfAt Tryz.f57 [1, 1, 0, 0] ⟨([.ints .i64 a, j 1, j 2, .nilS] ++ J j 4 18), (J jb 0 22)⟩
def ref02_Back_l0 : Prop := ∀ j jb vs, W C F 57 0 (ref02_Back_l0_s a  j jb vs) (Ans C Tryz.f57 (.ints .u64 z))
noncomputable def ref02_Back_l1_s (j : Nat → D) (jb : Nat → Blk) (vs : Nat → Nat) : Cf := cfAt Tryz.f57 [1, 1, 0, 0] ⟨([.ints .i64 a, j 1, j 2, (.sref 19 ((vs 19) + 1) 1 0 e)] ++ J j 4 18), (J jb 0 19 ++ [⟨((vs 19) + 1), false, .ints .u64 c⟩, jb 20, jb 21])⟩
def ref02_Back_l1 : Prop := ∀ e, e = c.length → ∀ j jb vs, W C F 57 0 (ref02_Back_l1_s a c e j jb vs) (Ans C Tryz.f57 (.ints .u64 z))
variable {a c e s z}
theorem ref02_Back_l0_go (H : (0 < (a.length : Int) ∧ ∃ l f, ref02_DivSmall_R a 4294967296 l f ∧ (1 + 192) * (8 + 1) ≤ 70368744177664 ∧ ∃ m, m = [(wu (f))] ∧ ref02_Back_l1 l m z) ∨ ¬ 0 < (a.length : Int) ∧ (z = [])) : ref02_Back_l0 a z := by
 intro j jb vs
 refine W.adv 1 (W.adv 8 ?_)
 rcases H with ⟨t, H⟩ | ⟨t, H⟩
 ·refine W.ct (0 < (a.length : Int)) t ?_
  refine W.adv 6 ?_
  obtain ⟨l, f, ad, H⟩ := H
  refine W.cl 120 [.ints .i64 a, .int .i64 4294967296] (.tuple [.ints .i64 l, .int .i64 f]) ad ?_
  refine W.adv 13 ?_
  obtain ⟨ae, H⟩ := H
  obtain ⟨m, aa, H⟩ := H
  have af : 1 = m.length := by rw [aa] <;> rfl
  refine W.opH (O.apNil (.lit (.ints .u64 [(wu (f))])) 8 19 ((jb 19).ver) .u64 [(wu (f))] aa ae) ?_
  exact W.adv 9 (W.tl (H _ af))
 ·refine W.cf (0 < (a.length : Int)) t ?_
  exact W.adv 12 (W.fr (Ans.q (.ints .u64 []) (by rw [H])))
theorem ref02_Back_l1_go (H : (0 < (a.length : Int) ∧ ∃ p i, ref02_DivSmall_R a 4294967296 p i ∧ (c.length + 1 + 192) * (8 + 1) ≤ 70368744177664 ∧ ∃ q, q = c ++ [(wu (i))] ∧ ref02_Back_l1 p q z) ∨ ¬ 0 < (a.length : Int) ∧ (z = c)) : ref02_Back_l1 a c z := by
 intro e ab j jb vs
 refine W.adv 1 (W.adv 8 ?_)
 rcases H with ⟨u, H⟩ | ⟨u, H⟩
 ·refine W.ct (0 < (a.length : Int)) u ?_
  refine W.adv 6 ?_
  obtain ⟨p, i, ag, H⟩ := H
  refine W.cl 120 [.ints .i64 a, .int .i64 4294967296] (.tuple [.ints .i64 p, .int .i64 i]) ag ?_
  refine W.adv 13 ?_
  obtain ⟨ai, H⟩ := H
  obtain ⟨q, ac, H⟩ := H
  have ak : (c.length + 1) = q.length := by rw [ac, List.length_append] <;> rfl
  refine W.opK (O.apRow (.lit (.ints .u64 [(wu (i))])) 8 19 ((vs 19) + 1) 19 ((vs 19) + 1) e .u64 c [(wu (i))] ac ab ai) ?_
  exact W.adv 9 (W.tl (H _ ak))
 ·refine W.cf (0 < (a.length : Int)) u ?_
  exact W.adv 12 (W.fr (Ans.of (d := (.sref 19 ((vs 19) + 1) 1 0 e)) (d' := (.ints .u64 c)) (e' := (.ints .u64 c)) (by kernel_rfl) ((congrArg (fun h => reify h DEPTH (.sref 19 ((vs 19) + 1) 1 0 e)) (tidy_ver (b := 19) (v := (vs 19)) (fz := false) (y := .ints .u64 c) (by kernel_rfl))).trans (rf_full (b := 19) (v := ((vs 19) + 1)) (w := ((vs 19) + 1)) (fz := false) (k := .u64) (xs := c) (by kernel_rfl) rfl ab)) (by kernel_rfl) (by rw [H])))
theorem ref02_Back_go (H : ref02_Back_l0 s z) : ref02_Back_R s z := by
 refine W.ii Tryz.func57 ?_
 exact W.adv 13 (W.tl H)
end
section
variable (b c : List Int) (a : Int) (e z : List Int)
noncomputable def ref02_Of_l0_s (j : Nat → D) (jb : Nat → Blk) (vs : Nat → Nat) : Cf := cfAt Tryz.f116 [1, 1, 0, 1, 0] ⟨([.ints .u64 b, j 1, j 2, .nilS, .int .i64 a] ++ J j 5 17), (J jb 0 22)⟩
def ref02_Of_l0 : Prop := ∀ j jb vs, W C F 116 0 (ref02_Of_l0_s b a  j jb vs) (Ans C Tryz.f116 (.ints .i64 z))
noncomputable def ref02_Of_l1_s (j : Nat → D) (jb : Nat → Blk) (vs : Nat → Nat) : Cf := cfAt Tryz.f116 [1, 1, 0, 1, 0] ⟨([.ints .u64 b, j 1, j 2, .ints .i64 c, .int .i64 a] ++ J j 5 17), (J jb 0 22)⟩
def ref02_Of_l1 : Prop := ∀ j jb vs, W C F 116 0 (ref02_Of_l1_s b c a  j jb vs) (Ans C Tryz.f116 (.ints .i64 z))
variable {b c a e z}
theorem ref02_Of_l0_go (H : (0 ≤ a ∧ a < (b.length : Int) ∧ ∃ f, ref02_MulAdd_R [] 4294967296 (wi (((b.getD (a).toNat 0).tmod 4294967296))) f ∧ ref02_Of_l1 b f (wi (a - 1)) z) ∨ ¬ 0 ≤ a ∧ (z = [])) : ref02_Of_l0 b a z := by
 intro j jb vs
 refine W.adv 1 (W.adv 7 ?_)
 rcases H with ⟨m, H⟩ | ⟨m, H⟩
 ·refine W.ct (0 ≤ a) m ?_
  refine W.adv 8 ?_
  obtain ⟨p, H⟩ := H
  refine W.opS (O.ixI .u64 .i64 b a m p) ?_
  refine W.adv 3 ?_
  obtain ⟨f, q, H⟩ := H
  refine W.cl 126 [.nilS, .int .i64 4294967296, (.int .i64 (wi (((b.getD (a).toNat 0).tmod 4294967296))))] (.ints .i64 f) q ?_
  exact W.adv 10 (W.tl H)
 ·refine W.cf (0 ≤ a) m ?_
  exact W.adv 12 (W.fr (Ans.q (.ints .i64 []) (by rw [H])))
theorem ref02_Of_l1_go (H : (0 ≤ a ∧ a < (b.length : Int) ∧ ∃ l, ref02_MulAdd_R c 4294967296 (wi (((b.getD (a).toNat 0).tmod 4294967296))) l ∧ ref02_Of_l1 b l (wi (a - 1)) z) ∨ ¬ 0 ≤ a ∧ (z = c)) : ref02_Of_l1 b c a z := by
 intro j jb vs
 refine W.adv 1 (W.adv 7 ?_)
 rcases H with ⟨n, H⟩ | ⟨n, H⟩
 ·refine W.ct (0 ≤ a) n ?_
  refine W.adv 8 ?_
  obtain ⟨s, H⟩ := H
  refine W.opS (O.ixI .u64 .i64 b a n s) ?_
  refine W.adv 3 ?_
  obtain ⟨l, t, H⟩ := H
  refine W.cl 126 [.ints .i64 c, .int .i64 4294967296, (.int .i64 (wi (((b.getD (a).toNat 0).tmod 4294967296))))] (.ints .i64 l) t ?_
  exact W.adv 10 (W.tl H)
 ·refine W.cf (0 ≤ a) n ?_
  exact W.adv 12 (W.fr (Ans.o (.ints .i64 c) (by rw [H])))
theorem ref02_Of_go (H : ref02_Of_l0 e (wi ((e.length : Int) - 1)) z) : ref02_Of_R e z := by
 refine W.ii Tryz.func116 ?_
 exact W.adv 21 (W.tl (P := ref02_Of_l0_s e (wi ((e.length : Int) - 1))) H)
end
section
variable (c : List Int) (f e a : Int) (p : List Int) (q : Nat) (l : List Int) (ac : Int) (s : List Int) (t : Int)
noncomputable def ref02_DivSmall_l0_s (j : Nat → D) (jb : Nat → Blk) (vs : Nat → Nat) : Cf := cfAt Tryz.f120 [1, 1, 0, 1, 0] ⟨([.ints .i64 c, .int .i64 f] ++ (J j 2 4 ++ ([.sref 11 1 1 0 q, .int .i64 e, .int .i64 a] ++ J j 9 29))), (J jb 0 11 ++ ([⟨1, false, .ints .i64 p⟩] ++ J jb 12 26))⟩
def ref02_DivSmall_l0 : Prop := ∀ q, q = p.length → ∀ j jb vs, W C F 120 0 (ref02_DivSmall_l0_s c f e a p q j jb vs) (Ans C Tryz.f120 (.tuple [.ints .i64 s, .int .i64 t]))
variable {c f e a p q l ac s t}
theorem ref02_DivSmall_l0_go (H : (0 ≤ a ∧ a < (c.length : Int) ∧ f ≠ 0 ∧ a < (p.length : Int) ∧ ∃ z, z = p.set (a).toNat (wi ((wi ((wi (10000 * e)) + (c.getD (a).toNat 0))).tdiv f)) ∧ ref02_DivSmall_l0 c f ((wi ((wi (10000 * e)) + (c.getD (a).toNat 0))).tmod f) (wi (a - 1)) z s t) ∨ ¬ 0 ≤ a ∧ ∃ u, ref02_Trim_R p u ∧ s = u ∧ t = e) : ref02_DivSmall_l0 c f e a p s t := by
 intro q ad j jb vs
 refine W.adv 1 (W.adv 7 ?_)
 rcases H with ⟨aa, H⟩ | ⟨aa, H⟩
 ·refine W.ct (0 ≤ a) aa ?_
  refine W.adv 10 ?_
  obtain ⟨ai, H⟩ := H
  refine W.opS (O.ixI .i64 .i64 c a aa ai) ?_
  refine W.adv 11 ?_
  obtain ⟨ae, H⟩ := H
  refine W.opS (OpIs.bn (op := .quo) (x := (.int .i64 (wi ((wi (10000 * e)) + (c.getD (a).toNat 0))))) (y := (.int .i64 f)) (by kernel_rfl) (quoD ae)) ?_
  obtain ⟨ak, H⟩ := H
  refine W.opS (O.ixR .i64 11 1 1 q a aa (by rw [ad]; exact ak)) ?_
  obtain ⟨z, af, H⟩ := H
  have al : q = z.length := by rw [af, List.length_set] <;> exact ad
  refine W.opH (OpIs.stN (b := 11) (v := 1) (i := (a).toNat) (w := 1) (k := .i64) (xs := p) (n := (wi ((wi ((wi (10000 * e)) + (c.getD (a).toNat 0))).tdiv f))) (by kernel_rfl) af rfl (by omega)) ?_
  refine W.adv 5 (W.opS (OpIs.bn (op := .rem) (x := (.int .i64 (wi ((wi (10000 * e)) + (c.getD (a).toNat 0))))) (y := (.int .i64 f)) (by kernel_rfl) (remD ae)) ?_)
  exact W.adv 10 (W.tl (P := ref02_DivSmall_l0_s c f ((wi ((wi (10000 * e)) + (c.getD (a).toNat 0))).tmod f) (wi (a - 1)) z q) (H _ al))
 ·refine W.cf (0 ≤ a) aa ?_
  refine W.adv 8 ?_
  obtain ⟨u, am, H⟩ := H
  refine W.callR (g := 130) (ds := [.sref 11 1 1 0 q]) (es := [.ints .i64 p]) (r := (.ints .i64 u)) (by kernel_rfl) (rf_cons (rf_full (b := 11) (v := 1) (w := 1) (fz := false) (k := .i64) (xs := p) (by kernel_rfl) rfl ad) rf_nil) (Ic.args am (by kernel_rfl)) (by kernel_rfl) ?_
  exact W.adv 6 (W.fr (Ans.o (.tuple [.ints .i64 u, .int .i64 e]) (by rw [H.1, H.2])))
theorem ref02_DivSmall_go (H : 0 ≤ (l.length : Int) ∧ 8 * (l.length : Int) ≤ 140737488351232 ∧ ∃ ab, ab = List.replicate (l.length : Int).toNat 0 ∧ ref02_DivSmall_l0 l ac 0 (wi ((l.length : Int) - 1)) ab s t) : ref02_DivSmall_R l ac s t := by
 refine W.ii Tryz.func120 ?_
 refine W.adv 10 ?_
 obtain ⟨an, ap, H⟩ := H
 obtain ⟨ab, ag, H⟩ := H
 have aq : (l.length : Int).toNat = ab.length := by rw [ag, List.length_replicate]
 refine W.opH (OpIs.msN (k1 := .i64) (k2 := .i64) (k := .i64) (n := (l.length : Int)) (m := (l.length : Int)) (y := 8) (b := 11) (v := 0) (by kernel_rfl) ag an (Int.le_refl _) ap (by omega)) ?_
 exact W.adv 14 (W.tl (P := ref02_DivSmall_l0_s l ac 0 (wi ((l.length : Int) - 1)) ab ((l.length : Int).toNat)) (H _ aq))
end
section
variable (b a e f z : List Int)
noncomputable def ref02_Gcd_l0_s (j : Nat → D) (jb : Nat → Blk) (vs : Nat → Nat) : Cf := cfAt Tryz.f123 [1, 0, 0] ⟨([.ints .i64 b, .ints .i64 a] ++ J j 2 17), (J jb 0 19)⟩
def ref02_Gcd_l0 : Prop := ∀ j jb vs, W C F 123 0 (ref02_Gcd_l0_s b a  j jb vs) (Ans C Tryz.f123 (.ints .i64 z))
variable {b a e f z}
theorem ref02_Gcd_l0_go (H : (0 < (a.length : Int) ∧ ∃ i c, ref02_Div_R b a i c ∧ ref02_Gcd_l0 a c z) ∨ ¬ 0 < (a.length : Int) ∧ (z = b)) : ref02_Gcd_l0 b a z := by
 intro j jb vs
 refine W.adv 1 (W.adv 8 ?_)
 rcases H with ⟨k, H⟩ | ⟨k, H⟩
 ·refine W.ct (0 < (a.length : Int)) k ?_
  refine W.adv 7 ?_
  obtain ⟨i, c, l, H⟩ := H
  refine W.cl 124 [.ints .i64 b, .ints .i64 a] (.tuple [.ints .i64 i, .ints .i64 c]) l ?_
  exact W.adv 15 (W.tl H)
 ·refine W.cf (0 < (a.length : Int)) k ?_
  exact W.adv 12 (W.fr (Ans.o (.ints .i64 b) (by rw [H])))
theorem ref02_Gcd_go (H : ref02_Gcd_l0 e f z) : ref02_Gcd_R e f z := by
 refine W.ii Tryz.func123 ?_
 exact W.adv 7 (W.tl H)
end
section
variable (c f l : List Int) (a q u : Int) (e : List Int) (p : Nat) (z au s t : List Int)
noncomputable def ref02_Div_l0_s (j : Nat → D) (jb : Nat → Blk) (vs : Nat → Nat) : Cf := cfAt Tryz.f124 [1, 1, 0, 1, 0] ⟨([.ints .i64 c, .ints .i64 f] ++ (J j 2 4 ++ ([.sref 14 1 1 0 p, .nilS, .int .i64 a] ++ J j 9 50))), (J jb 0 14 ++ ([⟨1, false, .ints .i64 e⟩] ++ J jb 15 44))⟩
def ref02_Div_l0 : Prop := ∀ p, p = e.length → ∀ j jb vs, W C F 124 0 (ref02_Div_l0_s c f a e p j jb vs) (Ans C Tryz.f124 (.tuple [.ints .i64 s, .ints .i64 t]))
noncomputable def ref02_Div_l1_s (j : Nat → D) (jb : Nat → Blk) (vs : Nat → Nat) : Cf := cfAt Tryz.f124 [1, 1, 0, 1, 0, 0, 1, 0, 0, 1, 1, 0, 0] ⟨([.ints .i64 c, .ints .i64 f] ++ (J j 2 4 ++ ([.sref 14 1 1 0 p, .ints .i64 l, .int .i64 a, .int .i64 q, .int .i64 u] ++ J j 11 48))), (J jb 0 14 ++ ([⟨1, false, .ints .i64 e⟩] ++ J jb 15 44))⟩
def ref02_Div_l1 : Prop := ∀ p, p = e.length → ∀ j jb vs, W C F 124 0 (ref02_Div_l1_s c f l a q u e p j jb vs) (Ans C Tryz.f124 (.tuple [.ints .i64 s, .ints .i64 t]))
noncomputable def ref02_Div_l2_s (j : Nat → D) (jb : Nat → Blk) (vs : Nat → Nat) : Cf := cfAt Tryz.f124 [1, 1, 0, 1, 0] ⟨([.ints .i64 c, .ints .i64 f] ++ (J j 2 4 ++ ([.sref 14 1 1 0 p, .ints .i64 l, .int .i64 a] ++ J j 9 50))), (J jb 0 14 ++ ([⟨1, false, .ints .i64 e⟩] ++ J jb 15 44))⟩
def ref02_Div_l2 : Prop := ∀ p, p = e.length → ∀ j jb vs, W C F 124 0 (ref02_Div_l2_s c f l a e p j jb vs) (Ans C Tryz.f124 (.tuple [.ints .i64 s, .ints .i64 t]))
variable {c f l a q u e p z au s t}
theorem ref02_Div_l0_go (H : (0 ≤ a ∧ a < (c.length : Int) ∧ ∃ ai, ref02_Trim_R [(c.getD (a).toNat 0)] ai ∧ ref02_Div_l1 c f ai a 0 10000 e s t) ∨ ¬ 0 ≤ a ∧ ∃ ab, ref02_Trim_R e ab ∧ s = ab ∧ t = []) : ref02_Div_l0 c f a e s t := by
 intro p aa j jb vs
 refine W.adv 1 (W.adv 7 ?_)
 rcases H with ⟨aq, H⟩ | ⟨aq, H⟩
 ·refine W.ct (0 ≤ a) aq ?_
  refine W.adv 8 ?_
  obtain ⟨a4, H⟩ := H
  refine W.opS (O.ixI .i64 .i64 c a aq a4) ?_
  refine W.adv 3 (W.opS (OpIs.apSame (x := (.lit (.ints .i64 [(c.getD (a).toNat 0)]))) (y := .nilS) (B := none) (n := 8) (d := 29) (dv := (jb 29).ver) (by kernel_rfl) (by kernel_rfl) (by kernel_rfl)) ?_)
  obtain ⟨ai, a5, H⟩ := H
  refine W.callR (g := 130) (ds := [(.lit (.ints .i64 [(c.getD (a).toNat 0)]))]) (es := [(.ints .i64 [(c.getD (a).toNat 0)])]) (r := (.ints .i64 ai)) (by kernel_rfl) (by kernel_rfl) (Ic.args a5 (by kernel_rfl)) (by kernel_rfl) ?_
  exact W.adv 11 (W.tl (H _ aa))
 ·refine W.cf (0 ≤ a) aq ?_
  refine W.adv 8 ?_
  obtain ⟨ab, a6, H⟩ := H
  refine W.callR (g := 130) (ds := [.sref 14 1 1 0 p]) (es := [.ints .i64 e]) (r := (.ints .i64 ab)) (by kernel_rfl) (rf_cons (rf_full (b := 14) (v := 1) (w := 1) (fz := false) (k := .i64) (xs := e) (by kernel_rfl) rfl aa) rf_nil) (Ic.args a6 (by kernel_rfl)) (by kernel_rfl) ?_
  exact W.adv 6 (W.fr (Ans.q (.tuple [.ints .i64 ab, .ints .i64 []]) (by rw [H.1, H.2])))
theorem ref02_Div_l1_go (H : (1 < (wi (u - q)) ∧ ∃ ae, ref02_MulAdd_R f (wi ((wi (q + u)).tdiv 2)) 0 ae ∧ ∃ ac, ref02_Cmp_R ae l ac ∧ (ac ≤ 0 ∧ ref02_Div_l1 c f l a (wi ((wi (q + u)).tdiv 2)) u e s t ∨ ¬ ac ≤ 0 ∧ ref02_Div_l1 c f l a q (wi ((wi (q + u)).tdiv 2)) e s t)) ∨ ¬ 1 < (wi (u - q)) ∧ 0 ≤ a ∧ a < (e.length : Int) ∧ ∃ ak, ak = e.set (a).toNat q ∧ ∃ af, ref02_MulAdd_R f q 0 af ∧ ∃ al, ref02_Sub_R l af al ∧ ref02_Div_l2 c f al (wi (a - 1)) ak s t) : ref02_Div_l1 c f l a q u e s t := by
 intro p aa j jb vs
 refine W.adv 1 (W.adv 9 ?_)
 rcases H with ⟨av, H⟩ | ⟨av, H⟩
 ·refine W.ct (1 < (wi (u - q))) av ?_
  refine W.adv 16 ?_
  obtain ⟨ae, a7, H⟩ := H
  refine W.cl 126 [.ints .i64 f, (.int .i64 (wi ((wi (q + u)).tdiv 2))), .int .i64 0] (.ints .i64 ae) a7 ?_
  refine W.adv 1 ?_
  obtain ⟨ac, a8, H⟩ := H
  refine W.cl 128 [.ints .i64 ae, .ints .i64 l] (.int .i64 ac) a8 ?_
  refine W.adv 3 ?_
  rcases H with ⟨aw, H⟩ | ⟨aw, H⟩
  ·refine W.ct (ac ≤ 0) aw ?_
   exact W.adv 6 (W.tl (P := ref02_Div_l1_s c f l a (wi ((wi (q + u)).tdiv 2)) u e p) (H _ aa))
  ·refine W.cf (ac ≤ 0) aw ?_
   exact W.adv 6 (W.tl (P := ref02_Div_l1_s c f l a q (wi ((wi (q + u)).tdiv 2)) e p) (H _ aa))
 ·refine W.cf (1 < (wi (u - q))) av ?_
  refine W.adv 10 ?_
  obtain ⟨a9, ba, H⟩ := H
  refine W.opS (O.ixR .i64 14 1 1 p a a9 (by rw [aa]; exact ba)) ?_
  obtain ⟨ak, az, H⟩ := H
  have bb : p = ak.length := by rw [az, List.length_set] <;> exact aa
  refine W.opH (OpIs.stN (b := 14) (v := 1) (i := (a).toNat) (w := 1) (k := .i64) (xs := e) (n := q) (by kernel_rfl) az rfl (by omega)) ?_
  refine W.adv 6 ?_
  obtain ⟨af, bc, H⟩ := H
  refine W.cl 126 [.ints .i64 f, .int .i64 q, .int .i64 0] (.ints .i64 af) bc ?_
  obtain ⟨al, bd, H⟩ := H
  refine W.cl 129 [.ints .i64 l, .ints .i64 af] (.ints .i64 al) bd ?_
  exact W.adv 10 (W.tl (H _ bb))
theorem ref02_Div_l2_go (H : 0 ≤ a ∧ a < (c.length : Int) ∧ ((l = [] ∧ ∃ am, ref02_Trim_R [(c.getD (a).toNat 0)] am ∧ ref02_Div_l1 c f am a 0 10000 e s t) ∨ ¬ l = [] ∧ ([(c.getD (a).toNat 0)].length + l.length + 192) * (8 + 1) ≤ 70368744177664 ∧ ∃ ag, ag = [(c.getD (a).toNat 0)] ++ l ∧ ∃ an, ref02_Trim_R ag an ∧ ref02_Div_l1 c f an a 0 10000 e s t) ∨ ¬ 0 ≤ a ∧ ∃ ad, ref02_Trim_R e ad ∧ s = ad ∧ t = l) : ref02_Div_l2 c f l a e s t := by
 intro p aa j jb vs
 refine W.adv 1 (W.adv 7 ?_)
 rcases H with ⟨ar, H⟩ | ⟨ar, H⟩
 ·refine W.ct (0 ≤ a) ar ?_
  refine W.adv 8 ?_
  obtain ⟨be, H⟩ := H
  refine W.opS (O.ixI .i64 .i64 c a ar be) ?_
  refine W.adv 3 ?_
  rcases H with ⟨ay, H⟩ | ⟨ay, H⟩
  ·refine W.opS (OpIs.apLit0 (y := (.ints .i64 l)) (B := none) (n := 8) (d := 29) (dv := (jb 29).ver) (k := .i64) (xs := [(c.getD (a).toNat 0)]) (ys := l) (by kernel_rfl) (by kernel_rfl) ay) ?_
   obtain ⟨am, bf, H⟩ := H
   refine W.callR (g := 130) (ds := [(.lit (.ints .i64 [(c.getD (a).toNat 0)]))]) (es := [(.ints .i64 [(c.getD (a).toNat 0)])]) (r := (.ints .i64 am)) (by kernel_rfl) (by kernel_rfl) (Ic.args bf (by kernel_rfl)) (by kernel_rfl) ?_
   exact W.adv 11 (W.tl (H _ aa))
  ·obtain ⟨bg, H⟩ := H
   obtain ⟨ag, a2, H⟩ := H
   have bi : ([(c.getD (a).toNat 0)].length + l.length) = ag.length := by rw [a2, List.length_append] <;> rfl
   refine W.opH (OpIs.apLit (y := (.ints .i64 l)) (B := none) (n := 8) (d := 29) (dv := (jb 29).ver) (k := .i64) (xs := [(c.getD (a).toNat 0)]) (ys := l) (by kernel_rfl) (by kernel_rfl) a2 bg ay) ?_
   obtain ⟨an, bk, H⟩ := H
   refine W.callR (g := 130) (ds := [(.sref 29 ((jb 29).ver + 1) 1 0 ([(c.getD (a).toNat 0)].length + l.length))]) (es := [.ints .i64 ag]) (r := (.ints .i64 an)) (by kernel_rfl) (rf_cons (rf_full (b := 29) (v := ((jb 29).ver + 1)) (w := ((jb 29).ver + 1)) (fz := false) (k := .i64) (xs := ag) (by kernel_rfl) rfl bi) rf_nil) (Ic.args bk (by kernel_rfl)) (by kernel_rfl) ?_
   exact W.adv 11 (W.tl (H _ aa))
 ·refine W.cf (0 ≤ a) ar ?_
  refine W.adv 8 ?_
  obtain ⟨ad, bl, H⟩ := H
  refine W.callR (g := 130) (ds := [.sref 14 1 1 0 p]) (es := [.ints .i64 e]) (r := (.ints .i64 ad)) (by kernel_rfl) (rf_cons (rf_full (b := 14) (v := 1) (w := 1) (fz := false) (k := .i64) (xs := e) (by kernel_rfl) rfl aa) rf_nil) (Ic.args bl (by kernel_rfl)) (by kernel_rfl) ?_
  exact W.adv 6 (W.fr (Ans.o (.tuple [.ints .i64 ad, .ints .i64 l]) (by rw [H.1, H.2])))
theorem ref02_Div_go (H : 0 ≤ (z.length : Int) ∧ 8 * (z.length : Int) ≤ 140737488351232 ∧ ∃ ap, ap = List.replicate (z.length : Int).toNat 0 ∧ ref02_Div_l0 z au (wi ((z.length : Int) - 1)) ap s t) : ref02_Div_R z au s t := by
 refine W.ii Tryz.func124 ?_
 refine W.adv 10 ?_
 obtain ⟨bm, bn, H⟩ := H
 obtain ⟨ap, a3, H⟩ := H
 have bp : (z.length : Int).toNat = ap.length := by rw [a3, List.length_replicate]
 refine W.opH (OpIs.msN (k1 := .i64) (k2 := .i64) (k := .i64) (n := (z.length : Int)) (m := (z.length : Int)) (y := 8) (b := 14) (v := 0) (by kernel_rfl) a3 bm (Int.le_refl _) bn (by omega)) ?_
 exact W.adv 15 (W.tl (P := ref02_Div_l0_s z au (wi ((z.length : Int) - 1)) ap ((z.length : Int).toNat)) (H _ bp))
end
section
variable (e : List Int) (l a c : Int) (f : List Int) (m : Nat) (p : List Int) (q : Nat) (ak : List Int) (al am : Int) (z : List Int)
noncomputable def ref02_MulAdd_l0_s (j : Nat → D) (jb : Nat → Blk) (vs : Nat → Nat) : Cf := cfAt Tryz.f126 [1, 1, 0, 1, 0] ⟨([.ints .i64 e, .int .i64 l, .int .i64 a] ++ (J j 3 4 ++ ([.nilS, .int .i64 c] ++ J j 9 33))), (J jb 0 42)⟩
def ref02_MulAdd_l0 : Prop := ∀ j jb vs, W C F 126 0 (ref02_MulAdd_l0_s e l a c  j jb vs) (Ans C Tryz.f126 (.ints .i64 z))
noncomputable def ref02_MulAdd_l1_s (j : Nat → D) (jb : Nat → Blk) (vs : Nat → Nat) : Cf := cfAt Tryz.f126 [1, 1, 0, 1, 0] ⟨([.ints .i64 e, .int .i64 l, .int .i64 a] ++ (J j 3 4 ++ ([(.sref 28 ((vs 28) + 1) 1 0 m), .int .i64 c] ++ J j 9 33))), (J jb 0 28 ++ ([⟨((vs 28) + 1), false, .ints .i64 f⟩] ++ J jb 29 13))⟩
def ref02_MulAdd_l1 : Prop := ∀ m, m = f.length → ∀ j jb vs, W C F 126 0 (ref02_MulAdd_l1_s e l a c f m j jb vs) (Ans C Tryz.f126 (.ints .i64 z))
noncomputable def ref02_MulAdd_l2_s (j : Nat → D) (jb : Nat → Blk) (vs : Nat → Nat) : Cf := cfAt Tryz.f126 [1, 1, 1, 0, 0] ⟨([j 0, j 1, .int .i64 a] ++ (J j 3 4 ++ ([.nilS] ++ J j 8 34))), (J jb 0 42)⟩
def ref02_MulAdd_l2 : Prop := ∀ j jb vs, W C F 126 0 (ref02_MulAdd_l2_s a  j jb vs) (Ans C Tryz.f126 (.ints .i64 z))
noncomputable def ref02_MulAdd_l3_s (j : Nat → D) (jb : Nat → Blk) (vs : Nat → Nat) : Cf := cfAt Tryz.f126 [1, 1, 1, 0, 0] ⟨([j 0, j 1, .int .i64 a] ++ (J j 3 4 ++ ([(.sref 28 ((vs 28) + 1) 1 0 m)] ++ J j 8 34))), (J jb 0 28 ++ ([⟨((vs 28) + 1), false, .ints .i64 f⟩] ++ J jb 29 13))⟩
def ref02_MulAdd_l3 : Prop := ∀ m, m = f.length → ∀ j jb vs, W C F 126 0 (ref02_MulAdd_l3_s a f m j jb vs) (Ans C Tryz.f126 (.ints .i64 z))
noncomputable def ref02_MulAdd_l4_s (j : Nat → D) (jb : Nat → Blk) (vs : Nat → Nat) : Cf := cfAt Tryz.f126 [1, 1, 1, 0, 0] ⟨([j 0, j 1, .int .i64 a] ++ (J j 3 4 ++ ([(.sref 37 ((vs 37) + 1) 1 0 q)] ++ J j 8 34))), (J jb 0 37 ++ ([⟨((vs 37) + 1), false, .ints .i64 p⟩] ++ J jb 38 4))⟩
def ref02_MulAdd_l4 : Prop := ∀ q, q = p.length → ∀ j jb vs, W C F 126 0 (ref02_MulAdd_l4_s a p q j jb vs) (Ans C Tryz.f126 (.ints .i64 z))
variable {e l a c f m p q ak al am z}
theorem ref02_MulAdd_l0_go (H : (c < (e.length : Int) ∧ 0 ≤ c ∧ (1 + 192) * (8 + 1) ≤ 70368744177664 ∧ ∃ aa, aa = [((wi (a + (wi ((e.getD (c).toNat 0) * l)))).tmod 10000)] ∧ ref02_MulAdd_l1 e l (wi ((wi (a + (wi ((e.getD (c).toNat 0) * l)))).tdiv 10000)) (wi (c + 1)) aa z) ∨ ¬ c < (e.length : Int) ∧ ref02_MulAdd_l2 a z) : ref02_MulAdd_l0 e l a c z := by
 intro j jb vs
 refine W.adv 1 (W.adv 9 ?_)
 rcases H with ⟨ag, H⟩ | ⟨ag, H⟩
 ·refine W.ct (c < (e.length : Int)) ag ?_
  refine W.adv 9 ?_
  obtain ⟨a3, H⟩ := H
  refine W.opS (O.ixI .i64 .i64 e c a3 ag) ?_
  refine W.adv 13 ?_
  obtain ⟨a4, H⟩ := H
  obtain ⟨aa, ar, H⟩ := H
  have a5 : 1 = aa.length := by rw [ar] <;> rfl
  refine W.opH (O.apNil (.lit (.ints .i64 [((wi (a + (wi ((e.getD (c).toNat 0) * l)))).tmod 10000)])) 8 28 ((jb 28).ver) .i64 [((wi (a + (wi ((e.getD (c).toNat 0) * l)))).tmod 10000)] ar a4) ?_
  exact W.adv 16 (W.tl (P := ref02_MulAdd_l1_s e l (wi ((wi (a + (wi ((e.getD (c).toNat 0) * l)))).tdiv 10000)) (wi (c + 1)) aa 1) (H _ a5))
 ·refine W.cf (c < (e.length : Int)) ag ?_
  exact W.adv 7 (W.tl H)
theorem ref02_MulAdd_l1_go (H : (c < (e.length : Int) ∧ 0 ≤ c ∧ (f.length + 1 + 192) * (8 + 1) ≤ 70368744177664 ∧ ∃ ab, ab = f ++ [((wi (a + (wi ((e.getD (c).toNat 0) * l)))).tmod 10000)] ∧ ref02_MulAdd_l1 e l (wi ((wi (a + (wi ((e.getD (c).toNat 0) * l)))).tdiv 10000)) (wi (c + 1)) ab z) ∨ ¬ c < (e.length : Int) ∧ ref02_MulAdd_l3 a f z) : ref02_MulAdd_l1 e l a c f z := by
 intro m ac j jb vs
 refine W.adv 1 (W.adv 9 ?_)
 rcases H with ⟨ai, H⟩ | ⟨ai, H⟩
 ·refine W.ct (c < (e.length : Int)) ai ?_
  refine W.adv 9 ?_
  obtain ⟨a6, H⟩ := H
  refine W.opS (O.ixI .i64 .i64 e c a6 ai) ?_
  refine W.adv 13 ?_
  obtain ⟨a7, H⟩ := H
  obtain ⟨ab, au, H⟩ := H
  have a8 : (f.length + 1) = ab.length := by rw [au, List.length_append] <;> rfl
  refine W.opK (O.apRow (.lit (.ints .i64 [((wi (a + (wi ((e.getD (c).toNat 0) * l)))).tmod 10000)])) 8 28 ((vs 28) + 1) 28 ((vs 28) + 1) m .i64 f [((wi (a + (wi ((e.getD (c).toNat 0) * l)))).tmod 10000)] au ac a7) ?_
  exact W.adv 16 (W.tl (P := ref02_MulAdd_l1_s e l (wi ((wi (a + (wi ((e.getD (c).toNat 0) * l)))).tdiv 10000)) (wi (c + 1)) ab (f.length + 1)) (H _ a8))
 ·refine W.cf (c < (e.length : Int)) ai ?_
  exact W.adv 7 (W.tl (H _ ac))
theorem ref02_MulAdd_l2_go (H : (0 < a ∧ (1 + 192) * (8 + 1) ≤ 70368744177664 ∧ ∃ ad, ad = [(a.tmod 10000)] ∧ ref02_MulAdd_l4 (wi (a.tdiv 10000)) ad z) ∨ ¬ 0 < a ∧ ∃ s, ref02_Trim_R [] s ∧ (z = s)) : ref02_MulAdd_l2 a z := by
 intro j jb vs
 refine W.adv 1 (W.adv 7 ?_)
 rcases H with ⟨an, H⟩ | ⟨an, H⟩
 ·refine W.ct (0 < a) an ?_
  refine W.adv 9 ?_
  obtain ⟨a9, H⟩ := H
  obtain ⟨ad, av, H⟩ := H
  have ba : 1 = ad.length := by rw [av] <;> rfl
  refine W.opH (O.apNil (.lit (.ints .i64 [(a.tmod 10000)])) 8 37 ((jb 37).ver) .i64 [(a.tmod 10000)] av a9) ?_
  exact W.adv 10 (W.tl (H _ ba))
 ·refine W.cf (0 < a) an ?_
  refine W.adv 8 ?_
  obtain ⟨s, bb, H⟩ := H
  refine W.cl 130 [.nilS] (.ints .i64 s) bb ?_
  exact W.adv 4 (W.fr (Ans.o (.ints .i64 s) (by rw [H])))
theorem ref02_MulAdd_l3_go (H : (0 < a ∧ (f.length + 1 + 192) * (8 + 1) ≤ 70368744177664 ∧ ∃ ae, ae = f ++ [(a.tmod 10000)] ∧ ref02_MulAdd_l4 (wi (a.tdiv 10000)) ae z) ∨ ¬ 0 < a ∧ ∃ t, ref02_Trim_R f t ∧ (z = t)) : ref02_MulAdd_l3 a f z := by
 intro m ac j jb vs
 refine W.adv 1 (W.adv 7 ?_)
 rcases H with ⟨ap, H⟩ | ⟨ap, H⟩
 ·refine W.ct (0 < a) ap ?_
  refine W.adv 9 ?_
  obtain ⟨bc, H⟩ := H
  obtain ⟨ae, aw, H⟩ := H
  have bd : (f.length + 1) = ae.length := by rw [aw, List.length_append] <;> rfl
  refine W.opK (O.apRow (.lit (.ints .i64 [(a.tmod 10000)])) 8 37 ((jb 37).ver) 28 ((vs 28) + 1) m .i64 f [(a.tmod 10000)] aw ac bc) ?_
  exact W.adv 10 (W.tl (H _ bd))
 ·refine W.cf (0 < a) ap ?_
  refine W.adv 8 ?_
  obtain ⟨t, be, H⟩ := H
  refine W.callR (g := 130) (ds := [(.sref 28 ((vs 28) + 1) 1 0 m)]) (es := [.ints .i64 f]) (r := (.ints .i64 t)) (by kernel_rfl) (rf_cons (rf_full (b := 28) (v := ((vs 28) + 1)) (w := ((vs 28) + 1)) (fz := false) (k := .i64) (xs := f) (by kernel_rfl) rfl ac) rf_nil) (Ic.args be (by kernel_rfl)) (by kernel_rfl) ?_
  exact W.adv 4 (W.fr (Ans.o (.ints .i64 t) (by rw [H])))
theorem ref02_MulAdd_l4_go (H : (0 < a ∧ (p.length + 1 + 192) * (8 + 1) ≤ 70368744177664 ∧ ∃ af, af = p ++ [(a.tmod 10000)] ∧ ref02_MulAdd_l4 (wi (a.tdiv 10000)) af z) ∨ ¬ 0 < a ∧ ∃ u, ref02_Trim_R p u ∧ (z = u)) : ref02_MulAdd_l4 a p z := by
 intro q ay j jb vs
 refine W.adv 1 (W.adv 7 ?_)
 rcases H with ⟨aq, H⟩ | ⟨aq, H⟩
 ·refine W.ct (0 < a) aq ?_
  refine W.adv 9 ?_
  obtain ⟨bf, H⟩ := H
  obtain ⟨af, az, H⟩ := H
  have bg : (p.length + 1) = af.length := by rw [az, List.length_append] <;> rfl
  refine W.opK (O.apRow (.lit (.ints .i64 [(a.tmod 10000)])) 8 37 ((vs 37) + 1) 37 ((vs 37) + 1) q .i64 p [(a.tmod 10000)] az ay bf) ?_
  exact W.adv 10 (W.tl (H _ bg))
 ·refine W.cf (0 < a) aq ?_
  refine W.adv 8 ?_
  obtain ⟨u, bi, H⟩ := H
  refine W.callR (g := 130) (ds := [(.sref 37 ((vs 37) + 1) 1 0 q)]) (es := [.ints .i64 p]) (r := (.ints .i64 u)) (by kernel_rfl) (rf_cons (rf_full (b := 37) (v := ((vs 37) + 1)) (w := ((vs 37) + 1)) (fz := false) (k := .i64) (xs := p) (by kernel_rfl) rfl ay) rf_nil) (Ic.args bi (by kernel_rfl)) (by kernel_rfl) ?_
  exact W.adv 4 (W.fr (Ans.o (.ints .i64 u) (by rw [H])))
theorem ref02_MulAdd_go (H : ref02_MulAdd_l0 ak al am 0 z) : ref02_MulAdd_R ak al am z := by
 refine W.ii Tryz.func126 ?_
 exact W.adv 18 (W.tl H)
end
section
variable (c e : List Int) (a : Int) (f g : List Int) (z : Int)
noncomputable def ref02_Cmp_l0_s (j : Nat → D) (jb : Nat → Blk) (vs : Nat → Nat) : Cf := cfAt Tryz.f128 [1, 1, 0, 1, 0] ⟨([.ints .i64 c, .ints .i64 e, j 2, j 3, j 4, .int .i64 a] ++ J j 6 35), (J jb 0 41)⟩
def ref02_Cmp_l0 : Prop := ∀ j jb vs, W C F 128 0 (ref02_Cmp_l0_s c e a  j jb vs) (Ans C Tryz.f128 (.int .i64 z))
variable {c e a f g z}
theorem ref02_Cmp_l0_go (H : 0 ≤ a ∧ a < (c.length : Int) ∧ a < (e.length : Int) ∧ ((c.getD (a).toNat 0) < (e.getD (a).toNat 0) ∧ (z = (-1)) ∨ ¬ (c.getD (a).toNat 0) < (e.getD (a).toNat 0) ∧ ((e.getD (a).toNat 0) < (c.getD (a).toNat 0) ∧ (z = 1) ∨ ¬ (e.getD (a).toNat 0) < (c.getD (a).toNat 0) ∧ ref02_Cmp_l0 c e (wi (a - 1)) z)) ∨ ¬ 0 ≤ a ∧ (z = 0)) : ref02_Cmp_l0 c e a z := by
 intro j jb vs
 refine W.adv 1 (W.adv 7 ?_)
 rcases H with ⟨l, H⟩ | ⟨l, H⟩
 ·refine W.ct (0 ≤ a) l ?_
  refine W.adv 9 ?_
  obtain ⟨r, H⟩ := H
  refine W.opS (O.ixI .i64 .i64 c a l r) ?_
  refine W.adv 3 ?_
  obtain ⟨s, H⟩ := H
  refine W.opS (O.ixI .i64 .i64 e a l s) ?_
  refine W.adv 4 ?_
  rcases H with ⟨m, H⟩ | ⟨m, H⟩
  ·refine W.ct ((c.getD (a).toNat 0) < (e.getD (a).toNat 0)) m ?_
   exact W.adv 12 (W.fr (Ans.o (.int .i64 (-1)) (by rw [H])))
  ·refine W.cf ((c.getD (a).toNat 0) < (e.getD (a).toNat 0)) m ?_
   refine W.adv 6 (W.opS (O.ixI .i64 .i64 c a l r) ?_)
   refine W.adv 3 (W.opS (O.ixI .i64 .i64 e a l s) ?_)
   refine W.adv 4 ?_
   rcases H with ⟨n, H⟩ | ⟨n, H⟩
   ·refine W.ct ((e.getD (a).toNat 0) < (c.getD (a).toNat 0)) n ?_
    exact W.adv 11 (W.fr (Ans.o (.int .i64 1) (by rw [H])))
   ·refine W.cf ((e.getD (a).toNat 0) < (c.getD (a).toNat 0)) n ?_
    exact W.adv 9 (W.tl H)
 ·refine W.cf (0 ≤ a) l ?_
  exact W.adv 11 (W.fr (Ans.o (.int .i64 0) (by rw [H])))
theorem ref02_Cmp_go (H : (f.length : Int) = (g.length : Int) ∧ ref02_Cmp_l0 f g (wi ((f.length : Int) - 1)) z ∨ ¬ (f.length : Int) = (g.length : Int) ∧ ((f.length : Int) < (g.length : Int) ∧ (z = (-1)) ∨ ¬ (f.length : Int) < (g.length : Int) ∧ (z = 1))) : ref02_Cmp_R f g z := by
 refine W.ii Tryz.func128 ?_
 refine W.adv 15 ?_
 rcases H with ⟨p, H⟩ | ⟨p, H⟩
 ·refine W.cb false (!(decide ((f.length : Int) = (g.length : Int)))) (congrArg (fun b => !b) (decide_eq_true p)) ?_
  exact W.adv 12 (W.tl (P := ref02_Cmp_l0_s f g (wi ((f.length : Int) - 1))) H)
 ·refine W.cb true (!(decide ((f.length : Int) = (g.length : Int)))) (congrArg (fun b => !b) (decide_eq_false p)) ?_
  refine W.adv 10 ?_
  rcases H with ⟨q, H⟩ | ⟨q, H⟩
  ·refine W.ct ((f.length : Int) < (g.length : Int)) q ?_
   exact W.adv 8 (W.fr (Ans.o (.int .i64 (-1)) (by rw [H])))
  ·refine W.cf ((f.length : Int) < (g.length : Int)) q ?_
   exact W.adv 9 (W.fr (Ans.o (.int .i64 1) (by rw [H])))
end
section
variable (c e : List Int) (f a : Int) (l : List Int) (m : Nat) (ap aq z : List Int)
noncomputable def ref02_Sub_l0_s (j : Nat → D) (jb : Nat → Blk) (vs : Nat → Nat) : Cf := cfAt Tryz.f129 [1, 1, 0, 1, 0] ⟨([.ints .i64 c, .ints .i64 e, j 2, j 3, j 4, .nilS, .int .i64 f, .int .i64 a] ++ J j 8 34), (J jb 0 42)⟩
def ref02_Sub_l0 : Prop := ∀ j jb vs, W C F 129 0 (ref02_Sub_l0_s c e f a  j jb vs) (Ans C Tryz.f129 (.ints .i64 z))
noncomputable def ref02_Sub_l1_s (j : Nat → D) (jb : Nat → Blk) (vs : Nat → Nat) : Cf := cfAt Tryz.f129 [1, 1, 0, 1, 0] ⟨([.ints .i64 c, .ints .i64 e, j 2, j 3, j 4, (.sref 39 ((vs 39) + 1) 1 0 m), .int .i64 f, .int .i64 a] ++ J j 8 34), (J jb 0 39 ++ [⟨((vs 39) + 1), false, .ints .i64 l⟩, jb 40, jb 41])⟩
def ref02_Sub_l1 : Prop := ∀ m, m = l.length → ∀ j jb vs, W C F 129 0 (ref02_Sub_l1_s c e f a l m j jb vs) (Ans C Tryz.f129 (.ints .i64 z))
variable {c e f a l m ap aq z}
theorem ref02_Sub_l0_go (H : a < (c.length : Int) ∧ 0 ≤ a ∧ (a < (e.length : Int) ∧ (((wi ((wi ((c.getD (a).toNat 0) - f)) - (e.getD (a).toNat 0))) < 0 ∧ ∃ s, s = (wi ((wi ((wi ((c.getD (a).toNat 0) - f)) - (e.getD (a).toNat 0))) + 10000)) ∧ (1 + 192) * (8 + 1) ≤ 70368744177664 ∧ ∃ t, t = [s] ∧ ref02_Sub_l1 c e 1 (wi (a + 1)) t z) ∨ ¬ (wi ((wi ((c.getD (a).toNat 0) - f)) - (e.getD (a).toNat 0))) < 0 ∧ (1 + 192) * (8 + 1) ≤ 70368744177664 ∧ ∃ u, u = [(wi ((wi ((c.getD (a).toNat 0) - f)) - (e.getD (a).toNat 0)))] ∧ ref02_Sub_l1 c e 0 (wi (a + 1)) u z) ∨ ¬ a < (e.length : Int) ∧ (((wi ((c.getD (a).toNat 0) - f)) < 0 ∧ (1 + 192) * (8 + 1) ≤ 70368744177664 ∧ ∃ aa, aa = [(wi ((wi ((c.getD (a).toNat 0) - f)) + 10000))] ∧ ref02_Sub_l1 c e 1 (wi (a + 1)) aa z) ∨ ¬ (wi ((c.getD (a).toNat 0) - f)) < 0 ∧ (1 + 192) * (8 + 1) ≤ 70368744177664 ∧ ∃ ab, ab = [(wi ((c.getD (a).toNat 0) - f))] ∧ ref02_Sub_l1 c e 0 (wi (a + 1)) ab z)) ∨ ¬ a < (c.length : Int) ∧ ∃ p, ref02_Trim_R [] p ∧ (z = p)) : ref02_Sub_l0 c e f a z := by
 intro j jb vs
 refine W.adv 1 (W.adv 9 ?_)
 rcases H with ⟨ak, H⟩ | ⟨ak, H⟩
 ·refine W.ct (a < (c.length : Int)) ak ?_
  refine W.adv 8 ?_
  obtain ⟨ay, H⟩ := H
  refine W.opS (O.ixI .i64 .i64 c a ay ak) ?_
  refine W.adv 15 ?_
  rcases H with ⟨al, H⟩ | ⟨al, H⟩
  ·refine W.ct (a < (e.length : Int)) al ?_
   refine W.adv 4 (W.opS (O.ixI .i64 .i64 e a ay al) ?_)
   refine W.adv 17 ?_
   rcases H with ⟨ar, H⟩ | ⟨ar, H⟩
   ·refine W.ct ((wi ((wi ((c.getD (a).toNat 0) - f)) - (e.getD (a).toNat 0))) < 0) ar ?_
    refine W.adv 2 ?_
    obtain ⟨s, ba, H⟩ := H
    refine W.opS (OpIs.bnN (k := .i64) (op := .add) (x := (.int .i64 (wi ((wi ((c.getD (a).toNat 0) - f)) - (e.getD (a).toNat 0))))) (y := (.int .i64 10000)) (by kernel_rfl) ba (by kernel_rfl)) ?_
    refine W.adv 8 ?_
    obtain ⟨bb, H⟩ := H
    obtain ⟨t, az, H⟩ := H
    have bc : 1 = t.length := by rw [az] <;> rfl
    refine W.opH (O.apNil (.lit (.ints .i64 [s])) 8 39 ((jb 39).ver) .i64 [s] az bb) ?_
    exact W.adv 10 (W.tl (H _ bc))
   ·refine W.cf ((wi ((wi ((c.getD (a).toNat 0) - f)) - (e.getD (a).toNat 0))) < 0) ar ?_
    refine W.adv 6 ?_
    obtain ⟨bd, H⟩ := H
    obtain ⟨u, a2, H⟩ := H
    have be : 1 = u.length := by rw [a2] <;> rfl
    refine W.opH (O.apNil (.lit (.ints .i64 [(wi ((wi ((c.getD (a).toNat 0) - f)) - (e.getD (a).toNat 0)))])) 8 39 ((jb 39).ver) .i64 [(wi ((wi ((c.getD (a).toNat 0) - f)) - (e.getD (a).toNat 0)))] a2 bd) ?_
    exact W.adv 10 (W.tl (H _ be))
  ·refine W.cf (a < (e.length : Int)) al ?_
   refine W.adv 14 ?_
   rcases H with ⟨au, H⟩ | ⟨au, H⟩
   ·refine W.ct ((wi ((c.getD (a).toNat 0) - f)) < 0) au ?_
    refine W.adv 11 ?_
    obtain ⟨bf, H⟩ := H
    obtain ⟨aa, a3, H⟩ := H
    have bg : 1 = aa.length := by rw [a3] <;> rfl
    refine W.opH (O.apNil (.lit (.ints .i64 [(wi ((wi ((c.getD (a).toNat 0) - f)) + 10000))])) 8 39 ((jb 39).ver) .i64 [(wi ((wi ((c.getD (a).toNat 0) - f)) + 10000))] a3 bf) ?_
    exact W.adv 10 (W.tl (H _ bg))
   ·refine W.cf ((wi ((c.getD (a).toNat 0) - f)) < 0) au ?_
    refine W.adv 6 ?_
    obtain ⟨bi, H⟩ := H
    obtain ⟨ab, a4, H⟩ := H
    have bk : 1 = ab.length := by rw [a4] <;> rfl
    refine W.opH (O.apNil (.lit (.ints .i64 [(wi ((c.getD (a).toNat 0) - f))])) 8 39 ((jb 39).ver) .i64 [(wi ((c.getD (a).toNat 0) - f))] a4 bi) ?_
    exact W.adv 10 (W.tl (H _ bk))
 ·refine W.cf (a < (c.length : Int)) ak ?_
  refine W.adv 8 ?_
  obtain ⟨p, bl, H⟩ := H
  refine W.cl 130 [.nilS] (.ints .i64 p) bl ?_
  exact W.adv 4 (W.fr (Ans.o (.ints .i64 p) (by rw [H])))
theorem ref02_Sub_l1_go (H : a < (c.length : Int) ∧ 0 ≤ a ∧ (a < (e.length : Int) ∧ (((wi ((wi ((c.getD (a).toNat 0) - f)) - (e.getD (a).toNat 0))) < 0 ∧ ∃ ac, ac = (wi ((wi ((wi ((c.getD (a).toNat 0) - f)) - (e.getD (a).toNat 0))) + 10000)) ∧ (l.length + 1 + 192) * (8 + 1) ≤ 70368744177664 ∧ ∃ ad, ad = l ++ [ac] ∧ ref02_Sub_l1 c e 1 (wi (a + 1)) ad z) ∨ ¬ (wi ((wi ((c.getD (a).toNat 0) - f)) - (e.getD (a).toNat 0))) < 0 ∧ (l.length + 1 + 192) * (8 + 1) ≤ 70368744177664 ∧ ∃ ae, ae = l ++ [(wi ((wi ((c.getD (a).toNat 0) - f)) - (e.getD (a).toNat 0)))] ∧ ref02_Sub_l1 c e 0 (wi (a + 1)) ae z) ∨ ¬ a < (e.length : Int) ∧ (((wi ((c.getD (a).toNat 0) - f)) < 0 ∧ (l.length + 1 + 192) * (8 + 1) ≤ 70368744177664 ∧ ∃ af, af = l ++ [(wi ((wi ((c.getD (a).toNat 0) - f)) + 10000))] ∧ ref02_Sub_l1 c e 1 (wi (a + 1)) af z) ∨ ¬ (wi ((c.getD (a).toNat 0) - f)) < 0 ∧ (l.length + 1 + 192) * (8 + 1) ≤ 70368744177664 ∧ ∃ ag, ag = l ++ [(wi ((c.getD (a).toNat 0) - f))] ∧ ref02_Sub_l1 c e 0 (wi (a + 1)) ag z)) ∨ ¬ a < (c.length : Int) ∧ ∃ q, ref02_Trim_R l q ∧ (z = q)) : ref02_Sub_l1 c e f a l z := by
 intro m ai j jb vs
 refine W.adv 1 (W.adv 9 ?_)
 rcases H with ⟨am, H⟩ | ⟨am, H⟩
 ·refine W.ct (a < (c.length : Int)) am ?_
  refine W.adv 8 ?_
  obtain ⟨a5, H⟩ := H
  refine W.opS (O.ixI .i64 .i64 c a a5 am) ?_
  refine W.adv 15 ?_
  rcases H with ⟨an, H⟩ | ⟨an, H⟩
  ·refine W.ct (a < (e.length : Int)) an ?_
   refine W.adv 4 (W.opS (O.ixI .i64 .i64 e a a5 an) ?_)
   refine W.adv 17 ?_
   rcases H with ⟨av, H⟩ | ⟨av, H⟩
   ·refine W.ct ((wi ((wi ((c.getD (a).toNat 0) - f)) - (e.getD (a).toNat 0))) < 0) av ?_
    refine W.adv 2 ?_
    obtain ⟨ac, bm, H⟩ := H
    refine W.opS (OpIs.bnN (k := .i64) (op := .add) (x := (.int .i64 (wi ((wi ((c.getD (a).toNat 0) - f)) - (e.getD (a).toNat 0))))) (y := (.int .i64 10000)) (by kernel_rfl) bm (by kernel_rfl)) ?_
    refine W.adv 8 ?_
    obtain ⟨bn, H⟩ := H
    obtain ⟨ad, a6, H⟩ := H
    have bp : (l.length + 1) = ad.length := by rw [a6, List.length_append] <;> rfl
    refine W.opK (O.apRow (.lit (.ints .i64 [ac])) 8 39 ((vs 39) + 1) 39 ((vs 39) + 1) m .i64 l [ac] a6 ai bn) ?_
    exact W.adv 10 (W.tl (H _ bp))
   ·refine W.cf ((wi ((wi ((c.getD (a).toNat 0) - f)) - (e.getD (a).toNat 0))) < 0) av ?_
    refine W.adv 6 ?_
    obtain ⟨bq, H⟩ := H
    obtain ⟨ae, a7, H⟩ := H
    have br : (l.length + 1) = ae.length := by rw [a7, List.length_append] <;> rfl
    refine W.opK (O.apRow (.lit (.ints .i64 [(wi ((wi ((c.getD (a).toNat 0) - f)) - (e.getD (a).toNat 0)))])) 8 39 ((vs 39) + 1) 39 ((vs 39) + 1) m .i64 l [(wi ((wi ((c.getD (a).toNat 0) - f)) - (e.getD (a).toNat 0)))] a7 ai bq) ?_
    exact W.adv 10 (W.tl (H _ br))
  ·refine W.cf (a < (e.length : Int)) an ?_
   refine W.adv 14 ?_
   rcases H with ⟨aw, H⟩ | ⟨aw, H⟩
   ·refine W.ct ((wi ((c.getD (a).toNat 0) - f)) < 0) aw ?_
    refine W.adv 11 ?_
    obtain ⟨bs, H⟩ := H
    obtain ⟨af, a8, H⟩ := H
    have bt : (l.length + 1) = af.length := by rw [a8, List.length_append] <;> rfl
    refine W.opK (O.apRow (.lit (.ints .i64 [(wi ((wi ((c.getD (a).toNat 0) - f)) + 10000))])) 8 39 ((vs 39) + 1) 39 ((vs 39) + 1) m .i64 l [(wi ((wi ((c.getD (a).toNat 0) - f)) + 10000))] a8 ai bs) ?_
    exact W.adv 10 (W.tl (H _ bt))
   ·refine W.cf ((wi ((c.getD (a).toNat 0) - f)) < 0) aw ?_
    refine W.adv 6 ?_
    obtain ⟨bu, H⟩ := H
    obtain ⟨ag, a9, H⟩ := H
    have bv : (l.length + 1) = ag.length := by rw [a9, List.length_append] <;> rfl
    refine W.opK (O.apRow (.lit (.ints .i64 [(wi ((c.getD (a).toNat 0) - f))])) 8 39 ((vs 39) + 1) 39 ((vs 39) + 1) m .i64 l [(wi ((c.getD (a).toNat 0) - f))] a9 ai bu) ?_
    exact W.adv 10 (W.tl (H _ bv))
 ·refine W.cf (a < (c.length : Int)) am ?_
  refine W.adv 8 ?_
  obtain ⟨q, bw, H⟩ := H
  refine W.callR (g := 130) (ds := [(.sref 39 ((vs 39) + 1) 1 0 m)]) (es := [.ints .i64 l]) (r := (.ints .i64 q)) (by kernel_rfl) (rf_cons (rf_full (b := 39) (v := ((vs 39) + 1)) (w := ((vs 39) + 1)) (fz := false) (k := .i64) (xs := l) (by kernel_rfl) rfl ai) rf_nil) (Ic.args bw (by kernel_rfl)) (by kernel_rfl) ?_
  exact W.adv 4 (W.fr (Ans.o (.ints .i64 q) (by rw [H])))
theorem ref02_Sub_go (H : ref02_Sub_l0 ap aq 0 0 z) : ref02_Sub_R ap aq z := by
 refine W.ii Tryz.func129 ?_
 exact W.adv 19 (W.tl H)
end
section
variable (c : List Int) (a : Int) (l z : List Int)
noncomputable def ref02_Trim_l0_s (j : Nat → D) (jb : Nat → Blk) (vs : Nat → Nat) : Cf := cfAt Tryz.f130 [1, 1, 0, 0] ⟨([.ints .i64 c, j 1, j 2, .int .i64 a] ++ J j 4 19), (J jb 0 23)⟩
def ref02_Trim_l0 : Prop := ∀ j jb vs, W C F 130 0 (ref02_Trim_l0_s c a  j jb vs) (Ans C Tryz.f130 (.ints .i64 z))
variable {c a l z}
theorem ref02_Trim_l0_go (H : 0 < a ∧ 0 ≤ (wi (a - 1)) ∧ (wi (a - 1)) < (c.length : Int) ∧ ((c.getD (wi (a - 1)).toNat 0) = 0 ∧ ref02_Trim_l0 c (wi (a - 1)) z ∨ ¬ (c.getD (wi (a - 1)).toNat 0) = 0 ∧ 0 ≤ a ∧ a ≤ (c.length : Int) ∧ ((c.take (a).toNat).length + 192) * (8 + 1) ≤ 70368744177664 ∧ ∃ f, f = (c.take (a).toNat) ∧ (z = f)) ∨ ¬ 0 < a ∧ 0 ≤ a ∧ a ≤ (c.length : Int) ∧ ((c.take (a).toNat).length + 192) * (8 + 1) ≤ 70368744177664 ∧ ∃ g, g = (c.take (a).toNat) ∧ (z = g)) : ref02_Trim_l0 c a z := by
 intro j jb vs
 refine W.adv 1 (W.adv 6 ?_)
 rcases H with ⟨e, H⟩ | ⟨e, H⟩
 ·refine W.gt (0 < a) e ?_
  refine W.adv 1 (W.gt (0 < a) e ?_)
  refine W.adv 1 (W.gt (0 < a) e ?_)
  refine W.adv 1 (W.gt (0 < a) e ?_)
  obtain ⟨r, s, H⟩ := H
  refine W.opS (O.ixI .i64 .i64 c (wi (a - 1)) r s) ?_
  refine W.gt (0 < a) e ?_
  refine W.adv 1 (W.gt (0 < a) e ?_)
  refine W.adv 1 (W.opS (O.pk (decide (0 < a)) true (.bool (decide ((c.getD (wi (a - 1)).toNat 0) = 0))) (.bool false) (decide_eq_true e)) ?_)
  refine W.adv 2 ?_
  rcases H with ⟨m, H⟩ | ⟨m, H⟩
  ·refine W.ct ((c.getD (wi (a - 1)).toNat 0) = 0) m ?_
   exact W.adv 10 (W.tl H)
  ·refine W.cf ((c.getD (wi (a - 1)).toNat 0) = 0) m ?_
   refine W.adv 10 ?_
   obtain ⟨u, aa, H⟩ := H
   refine W.opS (OpIs.slI_hi (k := .i64) (k' := .i64) (xs := c) (i := a) (by kernel_rfl) u aa) ?_
   obtain ⟨ab, H⟩ := H
   obtain ⟨f, p, H⟩ := H
   have ac : (c.take (a).toNat).length = f.length := by rw [p] <;> rfl
   refine W.opH (O.apNil (.ints .i64 (c.take (a).toNat)) 8 22 ((jb 22).ver) .i64 (c.take (a).toNat) p ab) ?_
   exact W.adv 4 (W.fr (Ans.of (d := (.sref 22 ((jb 22).ver + 1) 1 0 (c.take (a).toNat).length)) (d' := (.ints .i64 f)) (e' := (.ints .i64 f)) (by kernel_rfl) ((congrArg (fun h => reify h DEPTH (.sref 22 ((jb 22).ver + 1) 1 0 (c.take (a).toNat).length)) (tidy_ver (b := 22) (v := (jb 22).ver) (fz := false) (y := .ints .i64 f) (by kernel_rfl))).trans (rf_full (b := 22) (v := ((jb 22).ver + 1)) (w := ((jb 22).ver + 1)) (fz := false) (k := .i64) (xs := f) (by kernel_rfl) rfl ac)) (by kernel_rfl) (by rw [H])))
 ·refine W.gf (0 < a) e ?_
  refine W.gf (0 < a) e ?_
  refine W.gf (0 < a) e ?_
  refine W.gf (0 < a) e ?_
  refine W.gf (0 < a) e ?_
  refine W.gf (0 < a) e ?_
  refine W.opS (O.pk (decide (0 < a)) false (.tuple []) (.bool false) (decide_eq_false e)) ?_
  refine W.adv 13 ?_
  obtain ⟨ad, ae, H⟩ := H
  refine W.opS (OpIs.slI_hi (k := .i64) (k' := .i64) (xs := c) (i := a) (by kernel_rfl) ad ae) ?_
  obtain ⟨af, H⟩ := H
  obtain ⟨g, q, H⟩ := H
  have ag : (c.take (a).toNat).length = g.length := by rw [q] <;> rfl
  refine W.opH (O.apNil (.ints .i64 (c.take (a).toNat)) 8 22 ((jb 22).ver) .i64 (c.take (a).toNat) q af) ?_
  exact W.adv 4 (W.fr (Ans.of (d := (.sref 22 ((jb 22).ver + 1) 1 0 (c.take (a).toNat).length)) (d' := (.ints .i64 g)) (e' := (.ints .i64 g)) (by kernel_rfl) ((congrArg (fun h => reify h DEPTH (.sref 22 ((jb 22).ver + 1) 1 0 (c.take (a).toNat).length)) (tidy_ver (b := 22) (v := (jb 22).ver) (fz := false) (y := .ints .i64 g) (by kernel_rfl))).trans (rf_full (b := 22) (v := ((jb 22).ver + 1)) (w := ((jb 22).ver + 1)) (fz := false) (k := .i64) (xs := g) (by kernel_rfl) rfl ag)) (by kernel_rfl) (by rw [H])))
theorem ref02_Trim_go (H : ref02_Trim_l0 l (l.length : Int) z) : ref02_Trim_R l z := by
 refine W.ii Tryz.func130 ?_
 exact W.adv 14 (W.tl H)
end
section
variable (f : List Int) (l c : Int) (e : Nat) (a : List Int) (g : Nat) (ae : List Int) (af : Int) (z : List Int)
noncomputable def ref02_Clean_l0_s (j : Nat → D) (jb : Nat → Blk) (vs : Nat → Nat) : Cf := cfAt Tryz.f145 [1, 1, 0, 1, 0] ⟨([.ints .u64 f, .int .i64 l, j 2, j 3, j 4, .nilS, .int .i64 c] ++ J j 7 38), (J jb 0 45)⟩
def ref02_Clean_l0 : Prop := ∀ j jb vs, W C F 145 0 (ref02_Clean_l0_s f l c  j jb vs) (Ans C Tryz.f145 (.ints .u64 z))
noncomputable def ref02_Clean_l1_s (j : Nat → D) (jb : Nat → Blk) (vs : Nat → Nat) : Cf := cfAt Tryz.f145 [1, 1, 0, 1, 0] ⟨([.ints .u64 f, .int .i64 l, j 2, j 3, j 4, (.sref 26 ((vs 26) + 1) 1 0 g), .int .i64 c] ++ J j 7 38), (J jb 0 26 ++ ([⟨((vs 26) + 1), false, .ints .u64 a⟩] ++ J jb 27 18))⟩
def ref02_Clean_l1 : Prop := ∀ g, g = a.length → ∀ j jb vs, W C F 145 0 (ref02_Clean_l1_s f l c a g j jb vs) (Ans C Tryz.f145 (.ints .u64 z))
noncomputable def ref02_Clean_l2_s  (j : Nat → D) (jb : Nat → Blk) (vs : Nat → Nat) : Cf := cfAt Tryz.f145 [1, 1, 1, 0, 0] ⟨(J j 0 5 ++ ([.nilS] ++ J j 6 39)), (J jb 0 45)⟩
def ref02_Clean_l2 : Prop := ∀ j jb vs, W C F 145 0 (ref02_Clean_l2_s   j jb vs) (Ans C Tryz.f145 (.ints .u64 z))
noncomputable def ref02_Clean_l3_s (j : Nat → D) (jb : Nat → Blk) (vs : Nat → Nat) : Cf := cfAt Tryz.f145 [1, 1, 1, 0, 0] ⟨(J j 0 5 ++ ([(.sref 26 ((vs 26) + 1) 1 0 g)] ++ J j 6 39)), (J jb 0 26 ++ ([⟨((vs 26) + 1), false, .ints .u64 a⟩] ++ J jb 27 18))⟩
def ref02_Clean_l3 : Prop := ∀ g, g = a.length → ∀ j jb vs, W C F 145 0 (ref02_Clean_l3_s a g j jb vs) (Ans C Tryz.f145 (.ints .u64 z))
noncomputable def ref02_Clean_l4_s (e : Nat) (a : List Int) (g : Nat) (j : Nat → D) (jb : Nat → Blk) (vs : Nat → Nat) : Cf := cfAt Tryz.f145 [1, 1, 1, 0, 0] ⟨(J j 0 5 ++ ([(.sref 26 ((vs 26) + 1) 1 0 e)] ++ J j 6 39)), (J jb 0 26 ++ ([⟨((vs 26) + 1), false, .ints .u64 a⟩] ++ J jb 27 18))⟩
def ref02_Clean_l4 : Prop := ∀ g, g = a.length → e ≤ a.length → ∀ j jb vs, W C F 145 0 (ref02_Clean_l4_s e a g j jb vs) (Ans C Tryz.f145 (.ints .u64 z))
variable {f l c e a g ae af z}
theorem ref02_Clean_l0_go (H : c < (f.length : Int) ∧ ((c < l ∧ 0 ≤ c ∧ (1 + 192) * (8 + 1) ≤ 70368744177664 ∧ ∃ ac, ac = [((f.getD (c).toNat 0).tmod 4294967296)] ∧ ref02_Clean_l1 f l (wi (c + 1)) ac z) ∨ ¬ c < l ∧ ref02_Clean_l2 z) ∨ ¬ c < (f.length : Int) ∧ ref02_Clean_l2 z) : ref02_Clean_l0 f l c z := by
 intro j jb vs
 refine W.adv 1 (W.adv 8 ?_)
 rcases H with ⟨aa, H⟩ | ⟨aa, H⟩
 ·refine W.gt (c < (f.length : Int)) aa ?_
  refine W.adv 1 (W.gt (c < (f.length : Int)) aa ?_)
  refine W.adv 1 (W.gt (c < (f.length : Int)) aa ?_)
  refine W.adv 1 (W.opS (O.pk (decide (c < (f.length : Int))) true (.bool (decide (c < l))) (.bool false) (decide_eq_true aa)) ?_)
  refine W.adv 2 ?_
  rcases H with ⟨ag, H⟩ | ⟨ag, H⟩
  ·refine W.ct (c < l) ag ?_
   refine W.adv 8 ?_
   obtain ⟨ar, H⟩ := H
   refine W.opS (O.ixI .u64 .i64 f c ar aa) ?_
   refine W.adv 3 ?_
   obtain ⟨au, H⟩ := H
   obtain ⟨ac, am, H⟩ := H
   have av : 1 = ac.length := by rw [am] <;> rfl
   refine W.opH (O.apNil (.lit (.ints .u64 [((f.getD (c).toNat 0).tmod 4294967296)])) 8 26 ((jb 26).ver) .u64 [((f.getD (c).toNat 0).tmod 4294967296)] am au) ?_
   exact W.adv 10 (W.tl (H _ av))
  ·refine W.cf (c < l) ag ?_
   exact W.adv 7 (W.tl H)
 ·refine W.gf (c < (f.length : Int)) aa ?_
  refine W.gf (c < (f.length : Int)) aa ?_
  refine W.gf (c < (f.length : Int)) aa ?_
  refine W.opS (O.pk (decide (c < (f.length : Int))) false (.tuple []) (.bool false) (decide_eq_false aa)) ?_
  exact W.adv 10 (W.tl H)
theorem ref02_Clean_l1_go (H : c < (f.length : Int) ∧ ((c < l ∧ 0 ≤ c ∧ (a.length + 1 + 192) * (8 + 1) ≤ 70368744177664 ∧ ∃ ad, ad = a ++ [((f.getD (c).toNat 0).tmod 4294967296)] ∧ ref02_Clean_l1 f l (wi (c + 1)) ad z) ∨ ¬ c < l ∧ ref02_Clean_l3 a z) ∨ ¬ c < (f.length : Int) ∧ ref02_Clean_l3 a z) : ref02_Clean_l1 f l c a z := by
 intro g u j jb vs
 refine W.adv 1 (W.adv 8 ?_)
 rcases H with ⟨ab, H⟩ | ⟨ab, H⟩
 ·refine W.gt (c < (f.length : Int)) ab ?_
  refine W.adv 1 (W.gt (c < (f.length : Int)) ab ?_)
  refine W.adv 1 (W.gt (c < (f.length : Int)) ab ?_)
  refine W.adv 1 (W.opS (O.pk (decide (c < (f.length : Int))) true (.bool (decide (c < l))) (.bool false) (decide_eq_true ab)) ?_)
  refine W.adv 2 ?_
  rcases H with ⟨ai, H⟩ | ⟨ai, H⟩
  ·refine W.ct (c < l) ai ?_
   refine W.adv 8 ?_
   obtain ⟨aw, H⟩ := H
   refine W.opS (O.ixI .u64 .i64 f c aw ab) ?_
   refine W.adv 3 ?_
   obtain ⟨ay, H⟩ := H
   obtain ⟨ad, an, H⟩ := H
   have az : (a.length + 1) = ad.length := by rw [an, List.length_append] <;> rfl
   refine W.opK (O.apRow (.lit (.ints .u64 [((f.getD (c).toNat 0).tmod 4294967296)])) 8 26 ((vs 26) + 1) 26 ((vs 26) + 1) g .u64 a [((f.getD (c).toNat 0).tmod 4294967296)] an u ay) ?_
   exact W.adv 10 (W.tl (H _ az))
  ·refine W.cf (c < l) ai ?_
   exact W.adv 7 (W.tl (H _ u))
 ·refine W.gf (c < (f.length : Int)) ab ?_
  refine W.gf (c < (f.length : Int)) ab ?_
  refine W.gf (c < (f.length : Int)) ab ?_
  refine W.opS (O.pk (decide (c < (f.length : Int))) false (.tuple []) (.bool false) (decide_eq_false ab)) ?_
  exact W.adv 10 (W.tl (H _ u))
theorem ref02_Clean_l2_go (H : (z = [])) : ref02_Clean_l2 z := by
 intro j jb vs
 refine W.adv 1 (W.adv 30 ?_)
 exact W.fr (Ans.q (.ints .u64 []) (by rw [H]))
theorem ref02_Clean_l3_go (H : 0 < (a.length : Int) ∧ 0 ≤ (wi ((a.length : Int) - 1)) ∧ (wi ((a.length : Int) - 1)) < (a.length : Int) ∧ ((a.getD (wi ((a.length : Int) - 1)).toNat 0) = 0 ∧ (wi ((a.length : Int) - 1)) ≤ (a.length : Int) ∧ ref02_Clean_l4 ((wi ((a.length : Int) - 1)).toNat) a z ∨ ¬ (a.getD (wi ((a.length : Int) - 1)).toNat 0) = 0 ∧ (z = a)) ∨ ¬ 0 < (a.length : Int) ∧ (z = a)) : ref02_Clean_l3 a z := by
 intro g u j jb vs
 refine W.adv 1 (W.adv 4 ?_)
 refine W.opS (OpIs.ln (n := g) (m := a.length) (by kernel_rfl) u) ?_
 refine W.adv 2 ?_
 rcases H with ⟨r, H⟩ | ⟨r, H⟩
 ·refine W.gt (0 < (a.length : Int)) r ?_
  refine W.adv 1 (W.gt (0 < (a.length : Int)) r ?_)
  refine W.adv 1 (W.gt (0 < (a.length : Int)) r ?_)
  refine W.opS (OpIs.ln (n := g) (m := a.length) (by kernel_rfl) u) ?_
  refine W.gt (0 < (a.length : Int)) r ?_
  refine W.adv 1 (W.gt (0 < (a.length : Int)) r ?_)
  obtain ⟨ap, a2, H⟩ := H
  refine W.opS (O.ixR .i64 26 ((vs 26) + 1) 1 g (wi ((a.length : Int) - 1)) ap (by rw [u]; exact a2)) ?_
  refine W.gt (0 < (a.length : Int)) r ?_
  refine W.opS (OpIs.ldI (b := 26) (v := ((vs 26) + 1)) (i := (wi ((a.length : Int) - 1)).toNat) (w := ((vs 26) + 1)) (fz := false) (k := .u64) (xs := a) (by kernel_rfl) rfl (by omega)) ?_
  refine W.gt (0 < (a.length : Int)) r ?_
  refine W.adv 1 (W.opS (O.pk (decide (0 < (a.length : Int))) true (.bool (decide ((a.getD (wi ((a.length : Int) - 1)).toNat 0) = 0))) (.bool false) (decide_eq_true r)) ?_)
  refine W.adv 2 ?_
  rcases H with ⟨ak, H⟩ | ⟨ak, H⟩
  ·refine W.ct ((a.getD (wi ((a.length : Int) - 1)).toNat 0) = 0) ak ?_
   refine W.adv 6 (W.opS (OpIs.ln (n := g) (m := a.length) (by kernel_rfl) u) ?_)
   refine W.adv 1 ?_
   obtain ⟨a3, H⟩ := H
   refine W.opS (OpIs.slS (b := 26) (v := ((vs 26) + 1)) (sz := 1) (off := 0) (len := g) (p := 0) (q := (wi ((a.length : Int) - 1)).toNat) (lo := none) (hi := some (.int .i64 (wi ((a.length : Int) - 1)))) (by kernel_rfl) (bound_some ap (by rw [u]; exact a3)) rfl) ?_
   exact W.adv 4 (W.tl (P := ref02_Clean_l4_s ((wi ((a.length : Int) - 1)).toNat) a g) (H _ u (by omega)))
  ·refine W.cf ((a.getD (wi ((a.length : Int) - 1)).toNat 0) = 0) ak ?_
   exact W.adv 12 (W.fr (Ans.of (d := (.sref 26 ((vs 26) + 1) 1 0 g)) (d' := (.ints .u64 a)) (e' := (.ints .u64 a)) (by kernel_rfl) ((congrArg (fun h => reify h DEPTH (.sref 26 ((vs 26) + 1) 1 0 g)) (tidy_ver (b := 26) (v := (vs 26)) (fz := false) (y := .ints .u64 a) (by kernel_rfl))).trans (rf_full (b := 26) (v := ((vs 26) + 1)) (w := ((vs 26) + 1)) (fz := false) (k := .u64) (xs := a) (by kernel_rfl) rfl u)) (by kernel_rfl) (by rw [H])))
 ·refine W.gf (0 < (a.length : Int)) r ?_
  refine W.gf (0 < (a.length : Int)) r ?_
  refine W.gf (0 < (a.length : Int)) r ?_
  refine W.gf (0 < (a.length : Int)) r ?_
  refine W.gf (0 < (a.length : Int)) r ?_
  refine W.gf (0 < (a.length : Int)) r ?_
  refine W.gf (0 < (a.length : Int)) r ?_
  refine W.opS (O.pk (decide (0 < (a.length : Int))) false (.tuple []) (.bool false) (decide_eq_false r)) ?_
  exact W.adv 15 (W.fr (Ans.of (d := (.sref 26 ((vs 26) + 1) 1 0 g)) (d' := (.ints .u64 a)) (e' := (.ints .u64 a)) (by kernel_rfl) ((congrArg (fun h => reify h DEPTH (.sref 26 ((vs 26) + 1) 1 0 g)) (tidy_ver (b := 26) (v := (vs 26)) (fz := false) (y := .ints .u64 a) (by kernel_rfl))).trans (rf_full (b := 26) (v := ((vs 26) + 1)) (w := ((vs 26) + 1)) (fz := false) (k := .u64) (xs := a) (by kernel_rfl) rfl u)) (by kernel_rfl) (by rw [H])))
theorem ref02_Clean_l4_go (H : 0 < ((e : Nat) : Int) ∧ 0 ≤ (wi (((e : Nat) : Int) - 1)) ∧ (wi (((e : Nat) : Int) - 1)) < ((e : Nat) : Int) ∧ ((a.getD (wi (((e : Nat) : Int) - 1)).toNat 0) = 0 ∧ (wi (((e : Nat) : Int) - 1)) ≤ ((e : Nat) : Int) ∧ ref02_Clean_l4 ((wi (((e : Nat) : Int) - 1)).toNat) a z ∨ ¬ (a.getD (wi (((e : Nat) : Int) - 1)).toNat 0) = 0 ∧ (z = (a.take e))) ∨ ¬ 0 < ((e : Nat) : Int) ∧ (z = (a.take e))) : ref02_Clean_l4 e a z := by
 intro g u lp_m5 j jb vs
 refine W.adv 1 (W.adv 7 ?_)
 rcases H with ⟨s, H⟩ | ⟨s, H⟩
 ·refine W.gt (0 < ((e : Nat) : Int)) s ?_
  refine W.adv 1 (W.gt (0 < ((e : Nat) : Int)) s ?_)
  refine W.adv 1 (W.gt (0 < ((e : Nat) : Int)) s ?_)
  refine W.adv 1 (W.gt (0 < ((e : Nat) : Int)) s ?_)
  refine W.adv 1 (W.gt (0 < ((e : Nat) : Int)) s ?_)
  obtain ⟨aq, a4, H⟩ := H
  refine W.opS (O.ixR .i64 26 ((vs 26) + 1) 1 e (wi (((e : Nat) : Int) - 1)) aq a4) ?_
  refine W.gt (0 < ((e : Nat) : Int)) s ?_
  refine W.opS (OpIs.ldI (b := 26) (v := ((vs 26) + 1)) (i := (wi (((e : Nat) : Int) - 1)).toNat) (w := ((vs 26) + 1)) (fz := false) (k := .u64) (xs := a) (by kernel_rfl) rfl (by omega)) ?_
  refine W.gt (0 < ((e : Nat) : Int)) s ?_
  refine W.adv 1 (W.opS (O.pk (decide (0 < ((e : Nat) : Int))) true (.bool (decide ((a.getD (wi (((e : Nat) : Int) - 1)).toNat 0) = 0))) (.bool false) (decide_eq_true s)) ?_)
  refine W.adv 2 ?_
  rcases H with ⟨al, H⟩ | ⟨al, H⟩
  ·refine W.ct ((a.getD (wi (((e : Nat) : Int) - 1)).toNat 0) = 0) al ?_
   refine W.adv 8 ?_
   obtain ⟨a5, H⟩ := H
   refine W.opS (OpIs.slS (b := 26) (v := ((vs 26) + 1)) (sz := 1) (off := 0) (len := e) (p := 0) (q := (wi (((e : Nat) : Int) - 1)).toNat) (lo := none) (hi := some (.int .i64 (wi (((e : Nat) : Int) - 1)))) (by kernel_rfl) (bound_some aq a5) rfl) ?_
   exact W.adv 4 (W.tl (P := ref02_Clean_l4_s ((wi (((e : Nat) : Int) - 1)).toNat) a g) (H _ u (by omega)))
  ·refine W.cf ((a.getD (wi (((e : Nat) : Int) - 1)).toNat 0) = 0) al ?_
   exact W.adv 12 (W.fr (Ans.of (d := (.sref 26 ((vs 26) + 1) 1 0 e)) (d' := (.ints .u64 (a.take e))) (e' := (.ints .u64 (a.take e))) (by kernel_rfl) ((congrArg (fun h => reify h DEPTH (.sref 26 ((vs 26) + 1) 1 0 e)) (tidy_ver (b := 26) (v := (vs 26)) (fz := false) (y := .ints .u64 a) (by kernel_rfl))).trans (rf_row (off := 0) (len := e) (b := 26) (v := ((vs 26) + 1)) (w := ((vs 26) + 1)) (fz := false) (k := .u64) (xs := a) (by kernel_rfl) rfl (by omega))) (by kernel_rfl) (by rw [H])))
 ·refine W.gf (0 < ((e : Nat) : Int)) s ?_
  refine W.gf (0 < ((e : Nat) : Int)) s ?_
  refine W.gf (0 < ((e : Nat) : Int)) s ?_
  refine W.gf (0 < ((e : Nat) : Int)) s ?_
  refine W.gf (0 < ((e : Nat) : Int)) s ?_
  refine W.gf (0 < ((e : Nat) : Int)) s ?_
  refine W.gf (0 < ((e : Nat) : Int)) s ?_
  refine W.opS (O.pk (decide (0 < ((e : Nat) : Int))) false (.tuple []) (.bool false) (decide_eq_false s)) ?_
  exact W.adv 15 (W.fr (Ans.of (d := (.sref 26 ((vs 26) + 1) 1 0 e)) (d' := (.ints .u64 (a.take e))) (e' := (.ints .u64 (a.take e))) (by kernel_rfl) ((congrArg (fun h => reify h DEPTH (.sref 26 ((vs 26) + 1) 1 0 e)) (tidy_ver (b := 26) (v := (vs 26)) (fz := false) (y := .ints .u64 a) (by kernel_rfl))).trans (rf_row (off := 0) (len := e) (b := 26) (v := ((vs 26) + 1)) (w := ((vs 26) + 1)) (fz := false) (k := .u64) (xs := a) (by kernel_rfl) rfl (by omega))) (by kernel_rfl) (by rw [H])))
theorem ref02_Clean_go (H : ref02_Clean_l0 ae af 0 z) : ref02_Clean_R ae af z := by
 refine W.ii Tryz.func145 ?_
 exact W.adv 18 (W.tl H)
end
end Go.Proofs.YtjcdkemnflmfiaaGreatA
