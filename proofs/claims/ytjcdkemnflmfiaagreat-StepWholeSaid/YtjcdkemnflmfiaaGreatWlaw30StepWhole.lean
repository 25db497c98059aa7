/- Walks through the functions: what makes each relation true. -/
import Derived.Test.YtjcdkemnflmfiaaGreatW0
set_option linter.unusedVariables false
set_option maxRecDepth 100000
namespace Go.Proofs.YtjcdkemnflmfiaaGreatA
open Go Go.Proofs
theorem law30_StepWhole_go {ak : List T_api_Net} {c : Int} {z : Bool} (H : ∃ ac, law30_works_R ac ∧ ((ac = true ∧ ∃ k l p e, law30_One_R ak k l p e ∧ ∃ ad, law30_few_R k l p e c ad ∧ ((ad = true ∧ ∃ a q s u aa ae, step_Of_R k l p e c a q s u aa ae ∧ ((ae = 0 ∧ 0 ≤ c ∧ c < (e.length : Int) ∧ ∃ am an ap af aq, e.getD (c).toNat (ByteArray.empty, 0, 0, false, []) = (am, an, ap, af, aq) ∧ (af = true ∧ (((a.length : Int) = 0 ∧ ∃ ag, rat_Sign_R s u aa ag ∧ (z = (decide (ag = 0)))) ∨ ¬ (a.length : Int) = 0 ∧ (z = false)) ∨ ¬ af = true ∧ (q.length + 192) * (56 + 1) ≤ 70368744177664 ∧ ∃ ab, ab = q ∧ (ab.length + 1 + 192) * (56 + 1) ≤ 70368744177664 ∧ ∃ ai, ai = ab ++ [(s, u, aa)] ∧ ∃ al, fold_Whole_R ai al ∧ (z = al))) ∨ ¬ ae = 0 ∧ (z = (decide ((a.length : Int) = 0))))) ∨ ¬ ad = true ∧ (z = true))) ∨ ¬ ac = true ∧ (z = false))) : law30_StepWhole_R ak c z := by
 refine W.li Tryz.func5 ?_
 refine W.adv 8 ?_
 obtain ⟨ac, a2, H⟩ := H
 refine W.cl 10 [] (.bool ac) a2 ?_
 refine W.adv 3 ?_
 rcases H with ⟨ar, H⟩ | ⟨ar, H⟩
 ·refine W.cb false (!ac) (congrArg (fun b => !b) ar) ?_
  refine W.adv 5 ?_
  obtain ⟨k, l, p, e, a3, H⟩ := H
  refine W.cl 8 [(.list 4 (ak.map E_api_Net))] (.agg [.str k, (.list 2 (l.map E_api_Node)), (.list 6 (p.map E_api_Link)), (.list 5 (e.map E_api_Rule))]) a3 ?_
  refine W.adv 9 ?_
  obtain ⟨ad, a4, H⟩ := H
  refine W.cl 9 [(.agg [.str k, (.list 2 (l.map E_api_Node)), (.list 6 (p.map E_api_Link)), (.list 5 (e.map E_api_Rule))]), .int .i64 c] (.bool ad) a4 ?_
  refine W.adv 3 ?_
  rcases H with ⟨au, H⟩ | ⟨au, H⟩
  ·refine W.cb false (!ad) (congrArg (fun b => !b) au) ?_
   refine W.adv 6 ?_
   obtain ⟨a, q, s, u, aa, ae, a5, H⟩ := H
   refine W.cl 11 [(.agg [.str k, (.list 2 (l.map E_api_Node)), (.list 6 (p.map E_api_Link)), (.list 5 (e.map E_api_Rule))]), .int .i64 c] (.tuple [(.agg [.ints .i64 a, (.list 3 (q.map E_api_Rat)), .bool s, .ints .u64 u, .ints .u64 aa]), .int .i64 ae]) a5 ?_
   refine W.adv 15 ?_
   rcases H with ⟨av, H⟩ | ⟨av, H⟩
   ·refine W.cb false (!(decide (ae = 0))) (congrArg (fun b => !b) (decide_eq_true av)) ?_
    refine W.adv 8 ?_
    obtain ⟨a6, a7, H⟩ := H
    obtain ⟨am, an, ap, af, aq, a8, H⟩ := H
    refine W.opS (O.ixE E_api_Rule 5 .i64 e c (ByteArray.empty, 0, 0, false, []) (am, an, ap, af, aq) a6 a7 a8) ?_
    refine W.adv 4 ?_
    rcases H with ⟨aw, H⟩ | ⟨aw, H⟩
    ·refine W.cb true af aw ?_
     refine W.adv 7 ?_
     rcases H with ⟨f, H⟩ | ⟨f, H⟩
     ·refine W.gt ((a.length : Int) = 0) f ?_
      refine W.adv 1 (W.gt ((a.length : Int) = 0) f ?_)
      refine W.adv 1 (W.gt ((a.length : Int) = 0) f ?_)
      obtain ⟨ag, a9, H⟩ := H
      refine W.cl 25 [(.agg [.bool s, .ints .u64 u, .ints .u64 aa])] (.int .i64 ag) a9 ?_
      refine W.gt ((a.length : Int) = 0) f ?_
      refine W.adv 1 (W.opS (O.pk (decide ((a.length : Int) = 0)) true (.bool (decide (ag = 0))) (.bool false) (decide_eq_true f)) ?_)
      exact W.adv 5 (W.fr (LAns.of (d := (.bool (decide (ag = 0)))) (by kernel_rfl) (by rw [H])))
     ·refine W.gf ((a.length : Int) = 0) f ?_
      refine W.gf ((a.length : Int) = 0) f ?_
      refine W.gf ((a.length : Int) = 0) f ?_
      refine W.gf ((a.length : Int) = 0) f ?_
      refine W.opS (O.pk (decide ((a.length : Int) = 0)) false (.tuple []) (.bool false) (decide_eq_false f)) ?_
      exact W.adv 5 (W.fr (LAns.of (d := (.bool false)) (by kernel_rfl) (by rw [H])))
    ·refine W.cb false af (bfalse aw) ?_
     refine W.adv 7 ?_
     obtain ⟨ba, H⟩ := H
     obtain ⟨ab, ay, H⟩ := H
     have bb : q.length = ab.length := by rw [ay] <;> rfl
     refine W.opH (O.apENil E_api_Rat (.list 3 (q.map E_api_Rat)) 56 47 0 3 q ay ba) ?_
     refine W.adv 3 ?_
     obtain ⟨bc, H⟩ := H
     obtain ⟨ai, az, H⟩ := H
     have bd : (ab.length + 1) = ai.length := by rw [az, List.length_append] <;> rfl
     refine W.opK (O.apERow E_api_Rat (.lit (.list 3 [(.agg [.bool s, .ints .u64 u, .ints .u64 aa])])) 56 51 0 47 1 q.length 3 ab [(s, u, aa)] az bb bc) ?_
     obtain ⟨al, be, H⟩ := H
     refine W.callR (g := 26) (ds := [(.sref 51 1 3 0 (ab.length + 1))]) (es := [(.list 3 (ai.map E_api_Rat))]) (r := (.bool al)) (by kernel_rfl) (rf_cons (rf_fullE (enc := E_api_Rat) E_api_Rat_t (b := 51) (v := 1) (w := 1) (fz := false) (xs := ai) (by kernel_rfl) rfl bd) rf_nil) (Ic.args be (by kernel_rfl)) (by kernel_rfl) ?_
     exact W.adv 4 (W.fr (LAns.of (d := (.bool al)) (by kernel_rfl) (by rw [H])))
   ·refine W.cb true (!(decide (ae = 0))) (congrArg (fun b => !b) (decide_eq_false av)) ?_
    exact W.adv 11 (W.fr (LAns.of (d := (.bool (decide ((a.length : Int) = 0)))) (by kernel_rfl) (by rw [H])))
  ·refine W.cb true (!ad) (congrArg (fun b => !b) (bfalse au)) ?_
   exact W.adv 7 (W.fr (LAns.of (d := (.bool true)) (by kernel_rfl) (by rw [H])))
 ·refine W.cb true (!ac) (congrArg (fun b => !b) (bfalse ar)) ?_
  exact W.adv 7 (W.fr (LAns.of (d := (.bool false)) (by kernel_rfl) (by rw [H])))
end Go.Proofs.YtjcdkemnflmfiaaGreatA
