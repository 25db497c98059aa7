/- Walks through the functions: what makes each relation true. -/
import Derived.Test.YtjcdkemnflmfiaaGreatW0
set_option linter.unusedVariables false
set_option maxRecDepth 100000
namespace Go.Proofs.YtjcdkemnflmfiaaGreatA
open Go Go.Proofs
theorem law30_works_go {z : Bool} (H : ∃ m p q am, rat_Frac_R 1 3 m p q am ∧ ∃ a aa ab ac ad f, step_Of_R (⟨#[]⟩) ([(⟨#[120]⟩, [])] : List T_api_Node) ([(⟨#[107]⟩, ⟨#[120]⟩, ⟨#[120]⟩, m, p, q)] : List T_api_Link) ([(⟨#[120]⟩, 0, 0, false, [[(⟨#[107]⟩, 1)]])] : List T_api_Rule) 0 a aa ab ac ad f ∧ (f = 0 ∧ ((a.length : Int) = 1 ∧ 0 < (a.length : Int) ∧ (((a.getD 0 0) = 0 ∧ 0 < (aa.length : Int) ∧ ∃ ae af ag, aa.getD 0 (false, [], []) = (ae, af, ag) ∧ ∃ ai ak al, fold_Not_R m p q ai ak al ∧ ∃ e, rat_Same_R ae af ag ai ak al e ∧ ((e = true ∧ ∃ v, rat_Same_R ab ac ad m p q v ∧ (z = v)) ∨ ¬ e = true ∧ (z = false))) ∨ ¬ (a.getD 0 0) = 0 ∧ (z = false)) ∨ ¬ (a.length : Int) = 1 ∧ (z = false)) ∨ ¬ f = 0 ∧ (z = false))) : law30_works_R z := by
 refine W.ii Tryz.func10 ?_
 refine W.adv 7 ?_
 obtain ⟨m, p, q, am, an, H⟩ := H
 refine W.cl 35 [.int .i64 1, .int .i64 3] (.tuple [(.agg [.bool m, .ints .u64 p, .ints .u64 q]), .int .i64 am]) an ?_
 refine W.adv 28 ?_
 obtain ⟨a, aa, ab, ac, ad, f, ap, H⟩ := H
 refine W.callR (g := 11) (ds := [(.agg [.str ⟨#[]⟩, (.lit (.list 2 [(.agg [.str ⟨#[120]⟩, .list 2 []])])), (.lit (.list 6 [(.agg [.str ⟨#[107]⟩, .str ⟨#[120]⟩, .str ⟨#[120]⟩, .bool m, .ints .u64 p, .ints .u64 q])])), (.lit (.list 5 [(.agg [.str ⟨#[120]⟩, .int .u32 0, .int .i64 0, .bool false, (.list 1 [(.list 2 [(.agg [.str ⟨#[107]⟩, .int .i64 1])])])])]))]), .int .i64 0]) (es := [(.agg [.str ⟨#[]⟩, (.list 2 [(.agg [.str ⟨#[120]⟩, .list 2 []])]), (.list 6 [(.agg [.str ⟨#[107]⟩, .str ⟨#[120]⟩, .str ⟨#[120]⟩, .bool m, .ints .u64 p, .ints .u64 q])]), (.list 5 [(.agg [.str ⟨#[120]⟩, .int .u32 0, .int .i64 0, .bool false, (.list 1 [(.list 2 [(.agg [.str ⟨#[107]⟩, .int .i64 1])])])])])]), .int .i64 0]) (r := (.tuple [(.agg [.ints .i64 a, (.list 3 (aa.map E_api_Rat)), .bool ab, .ints .u64 ac, .ints .u64 ad]), .int .i64 f])) (by kernel_rfl) (by kernel_rfl) (Ic.args ap (by kernel_rfl)) (by kernel_rfl) ?_
 refine W.adv 13 ?_
 rcases H with ⟨s, H⟩ | ⟨s, H⟩
 ·refine W.gt (f = 0) s ?_
  refine W.adv 1 (W.gt (f = 0) s ?_)
  refine W.adv 1 (W.gt (f = 0) s ?_)
  refine W.adv 1 (W.gt (f = 0) s ?_)
  refine W.adv 1 (W.opS (O.pk (decide (f = 0)) true (.bool (decide ((a.length : Int) = 1))) (.bool false) (decide_eq_true s)) ?_)
  refine W.adv 1 ?_
  rcases H with ⟨l, H⟩ | ⟨l, H⟩
  ·refine W.gt ((a.length : Int) = 1) l ?_
   refine W.adv 1 (W.gt ((a.length : Int) = 1) l ?_)
   refine W.adv 1 (W.gt ((a.length : Int) = 1) l ?_)
   obtain ⟨aq, H⟩ := H
   refine W.opS (O.ixI .i64 .i64 a 0 (by decide) aq) ?_
   refine W.gt ((a.length : Int) = 1) l ?_
   refine W.adv 1 (W.gt ((a.length : Int) = 1) l ?_)
   refine W.adv 1 (W.opS (O.pk (decide ((a.length : Int) = 1)) true (.bool (decide ((a.getD 0 0) = 0))) (.bool false) (decide_eq_true l)) ?_)
   refine W.adv 1 ?_
   rcases H with ⟨c, H⟩ | ⟨c, H⟩
   ·refine W.gt ((a.getD 0 0) = 0) c ?_
    refine W.adv 1 (W.gt ((a.getD 0 0) = 0) c ?_)
    refine W.adv 1 (W.gt ((a.getD 0 0) = 0) c ?_)
    obtain ⟨ar, H⟩ := H
    obtain ⟨ae, af, ag, au, H⟩ := H
    refine W.opS (O.ixE E_api_Rat 3 .i64 aa 0 (false, [], []) (ae, af, ag) (by decide) ar au) ?_
    refine W.gt ((a.getD 0 0) = 0) c ?_
    refine W.adv 1 (W.gt ((a.getD 0 0) = 0) c ?_)
    refine W.adv 1 (W.gt ((a.getD 0 0) = 0) c ?_)
    obtain ⟨ai, ak, al, av, H⟩ := H
    refine W.cl 37 [(.agg [.bool m, .ints .u64 p, .ints .u64 q])] (.agg [.bool ai, .ints .u64 ak, .ints .u64 al]) av ?_
    refine W.gt ((a.getD 0 0) = 0) c ?_
    obtain ⟨e, aw, H⟩ := H
    refine W.cl 36 [(.agg [.bool ae, .ints .u64 af, .ints .u64 ag]), (.agg [.bool ai, .ints .u64 ak, .ints .u64 al])] (.bool e) aw ?_
    refine W.opS (O.pk (decide ((a.getD 0 0) = 0)) true (.bool e) (.bool false) (decide_eq_true c)) ?_
    refine W.adv 1 ?_
    rcases H with ⟨u, H⟩ | ⟨u, H⟩
    ·refine W.gb true (e == true) (congrArg (fun b => b == true) u) ?_
     refine W.adv 1 (W.gb true (e == true) (congrArg (fun b => b == true) u) ?_)
     refine W.adv 1 (W.gb true (e == true) (congrArg (fun b => b == true) u) ?_)
     refine W.adv 1 (W.gb true (e == true) (congrArg (fun b => b == true) u) ?_)
     obtain ⟨v, ay, H⟩ := H
     refine W.cl 36 [(.agg [.bool ab, .ints .u64 ac, .ints .u64 ad]), (.agg [.bool m, .ints .u64 p, .ints .u64 q])] (.bool v) ay ?_
     refine W.opS (O.pk e true (.bool v) (.bool false) u) ?_
     exact W.adv 4 (W.fr (Ans.o (.bool v) (by rw [H])))
    ·refine W.gb false (e == true) (congrArg (fun b => b == true) (bfalse u)) ?_
     refine W.gb false (e == true) (congrArg (fun b => b == true) (bfalse u)) ?_
     refine W.gb false (e == true) (congrArg (fun b => b == true) (bfalse u)) ?_
     refine W.gb false (e == true) (congrArg (fun b => b == true) (bfalse u)) ?_
     refine W.opS (O.pk e false (.tuple []) (.bool false) (bfalse u)) ?_
     exact W.adv 4 (W.fr (Ans.o (.bool false) (by rw [H])))
   ·refine W.gf ((a.getD 0 0) = 0) c ?_
    refine W.gf ((a.getD 0 0) = 0) c ?_
    refine W.gf ((a.getD 0 0) = 0) c ?_
    refine W.gf ((a.getD 0 0) = 0) c ?_
    refine W.gf ((a.getD 0 0) = 0) c ?_
    refine W.gf ((a.getD 0 0) = 0) c ?_
    refine W.gf ((a.getD 0 0) = 0) c ?_
    refine W.opS (O.pk (decide ((a.getD 0 0) = 0)) false (.tuple []) (.bool false) (decide_eq_false c)) ?_
    exact W.adv 10 (W.fr (Ans.o (.bool false) (by rw [H])))
  ·refine W.gf ((a.length : Int) = 1) l ?_
   refine W.gf ((a.length : Int) = 1) l ?_
   refine W.gf ((a.length : Int) = 1) l ?_
   refine W.gf ((a.length : Int) = 1) l ?_
   refine W.gf ((a.length : Int) = 1) l ?_
   refine W.opS (O.pk (decide ((a.length : Int) = 1)) false (.tuple []) (.bool false) (decide_eq_false l)) ?_
   exact W.adv 19 (W.fr (Ans.o (.bool false) (by rw [H])))
 ·refine W.gf (f = 0) s ?_
  refine W.gf (f = 0) s ?_
  refine W.gf (f = 0) s ?_
  refine W.gf (f = 0) s ?_
  refine W.opS (O.pk (decide (f = 0)) false (.tuple []) (.bool false) (decide_eq_false s)) ?_
  exact W.adv 26 (W.fr (Ans.o (.bool false) (by rw [H])))
end Go.Proofs.YtjcdkemnflmfiaaGreatA
