/- Walks through the functions: what makes each relation true. -/
import Derived.Test.YtjcdkemnflmfiaaGreatW0
set_option linter.unusedVariables false
set_option maxRecDepth 100000
namespace Go.Proofs.YtjcdkemnflmfiaaGreatA
open Go Go.Proofs
section
variable (a e : Int) (c : List Int) (ad : List T_api_Rat) (af : Bool) (ag ai : List Int) (v : List T_ref08_Q) (ak : Bool) (al am : List Int) (av : List T_api_Net) (ae : Int) (z : Bool)
noncomputable def law30_StepOf_l0_s (j : Nat → D) (jb : Nat → Blk) (vs : Nat → Nat) : Cf := cfAt Tryz.f3 [1, 1, 1, 1, 1, 1, 1, 1, 0, 1, 0] ⟨(J j 0 6 ++ ([.pref 6 1 0 0, j 7, .pref 8 1 0 0, j 9, .int .i64 a, .int .i64 e] ++ J j 12 111)), (J jb 0 6 ++ ([⟨1, false, .rows 5 [(.agg [.ints .i64 c, (.list 3 (ad.map E_api_Rat)), .bool af, .ints .u64 ag, .ints .u64 ai])]⟩, jb 7, ⟨1, false, .rows 4 [(.agg [(.list 3 (v.map E_ref08_Q)), .bool ak, .ints .i64 al, .ints .i64 am])]⟩] ++ J jb 9 114))⟩
def law30_StepOf_l0 : Prop := ∀ j jb vs, W C F 3 0 (law30_StepOf_l0_s a e c ad af ag ai v ak al am  j jb vs) (LAns C Tryz.f3 z)
variable {a e c ad af ag ai v ak al am av ae z}
theorem law30_StepOf_l0_go (H : (e < (v.length : Int) ∧ 0 ≤ e ∧ ∃ a7 a8 a9, v.getD (e).toNat (false, [], []) = (a7, a8, a9) ∧ ∃ a5, ref08_Zero_R a7 a8 a9 a5 ∧ (a5 = true ∧ law30_StepOf_l0 a (wi (e + 1)) c ad af ag ai v ak al am z ∨ ¬ a5 = true ∧ ((c.length : Int) ≤ a ∧ (z = false) ∨ ¬ (c.length : Int) ≤ a ∧ 0 ≤ a ∧ a < (c.length : Int) ∧ (((c.getD (a).toNat 0) = e ∧ a < (ad.length : Int) ∧ ∃ ba bb bc, ad.getD (a).toNat (false, [], []) = (ba, bb, bc) ∧ ∃ bd be bf, v.getD (e).toNat (false, [], []) = (bd, be, bf) ∧ ∃ bg bi bk, ref08_Back_R bd be bf bg bi bk ∧ ∃ au, ref08_Same_R ba bb bc bg bi bk au ∧ (au = true ∧ law30_StepOf_l0 (wi (a + 1)) (wi (e + 1)) c ad af ag ai v ak al am z ∨ ¬ au = true ∧ (z = false))) ∨ ¬ (c.getD (a).toNat 0) = e ∧ (z = false))))) ∨ ¬ e < (v.length : Int) ∧ ((a = (c.length : Int) ∧ ∃ bl, law30_works_R bl ∧ (z = bl)) ∨ ¬ a = (c.length : Int) ∧ (z = false))) : law30_StepOf_l0 a e c ad af ag ai v ak al am z := by
 intro j jb vs
 refine W.adv 1 (W.adv 6 ?_)
 refine W.opS (O.ln v E_ref08_Q) ?_
 refine W.adv 3 ?_
 rcases H with ⟨bv, H⟩ | ⟨bv, H⟩
 ·refine W.ct (e < (v.length : Int)) bv ?_
  refine W.adv 10 ?_
  obtain ⟨b7, H⟩ := H
  obtain ⟨a7, a8, a9, b9, H⟩ := H
  refine W.opS (O.ixE E_ref08_Q 3 .i64 v e (false, [], []) (a7, a8, a9) b7 bv b9) ?_
  refine W.adv 1 ?_
  obtain ⟨a5, ca, H⟩ := H
  refine W.cl 15 [(.agg [.bool a7, .ints .i64 a8, .ints .i64 a9])] (.bool a5) ca ?_
  refine W.adv 2 ?_
  rcases H with ⟨b2, H⟩ | ⟨b2, H⟩
  ·refine W.cb true a5 b2 ?_
   exact W.adv 10 (W.tl H)
  ·refine W.cb false a5 (bfalse b2) ?_
   refine W.adv 11 ?_
   rcases H with ⟨aa, H⟩ | ⟨aa, H⟩
   ·refine W.gt' ((c.length : Int) ≤ a) aa ?_
    refine W.gt' ((c.length : Int) ≤ a) aa ?_
    refine W.gt' ((c.length : Int) ≤ a) aa ?_
    refine W.gt' ((c.length : Int) ≤ a) aa ?_
    refine W.gt' ((c.length : Int) ≤ a) aa ?_
    refine W.gt' ((c.length : Int) ≤ a) aa ?_
    refine W.gt' ((c.length : Int) ≤ a) aa ?_
    refine W.opS (O.pk (decide ((c.length : Int) ≤ a)) true (.bool true) (.tuple []) (decide_eq_true aa)) ?_
    exact W.adv 30 (W.fr (LAns.of (d := (.bool false)) (by kernel_rfl) (by rw [H])))
   ·refine W.gf' ((c.length : Int) ≤ a) aa ?_
    refine W.adv 1 (W.gf' ((c.length : Int) ≤ a) aa ?_)
    refine W.adv 1 (W.gf' ((c.length : Int) ≤ a) aa ?_)
    refine W.adv 1 (W.gf' ((c.length : Int) ≤ a) aa ?_)
    obtain ⟨b8, cc, H⟩ := H
    refine W.opS (O.ixI .i64 .i64 c a b8 cc) ?_
    refine W.gf' ((c.length : Int) ≤ a) aa ?_
    refine W.adv 1 (W.gf' ((c.length : Int) ≤ a) aa ?_)
    refine W.adv 1 (W.gf' ((c.length : Int) ≤ a) aa ?_)
    refine W.adv 1 (W.opS (O.pk (decide ((c.length : Int) ≤ a)) false (.bool true) (.bool (!(decide ((c.getD (a).toNat 0) = e)))) (decide_eq_false aa)) ?_)
    refine W.adv 1 ?_
    rcases H with ⟨l, H⟩ | ⟨l, H⟩
    ·refine W.gb true ((!(decide ((c.getD (a).toNat 0) = e))) == false) (congrArg (fun b => b == false) (congrArg (fun b => !b) (decide_eq_true l))) ?_
     refine W.adv 1 (W.gb true ((!(decide ((c.getD (a).toNat 0) = e))) == false) (congrArg (fun b => b == false) (congrArg (fun b => !b) (decide_eq_true l))) ?_)
     refine W.adv 1 (W.gb true ((!(decide ((c.getD (a).toNat 0) = e))) == false) (congrArg (fun b => b == false) (congrArg (fun b => !b) (decide_eq_true l))) ?_)
     refine W.adv 1 (W.gb true ((!(decide ((c.getD (a).toNat 0) = e))) == false) (congrArg (fun b => b == false) (congrArg (fun b => !b) (decide_eq_true l))) ?_)
     obtain ⟨cd, H⟩ := H
     obtain ⟨ba, bb, bc, ce, H⟩ := H
     refine W.opS (O.ixE E_api_Rat 3 .i64 ad a (false, [], []) (ba, bb, bc) b8 cd ce) ?_
     refine W.gb true ((!(decide ((c.getD (a).toNat 0) = e))) == false) (congrArg (fun b => b == false) (congrArg (fun b => !b) (decide_eq_true l))) ?_
     refine W.adv 1 (W.gb true ((!(decide ((c.getD (a).toNat 0) = e))) == false) (congrArg (fun b => b == false) (congrArg (fun b => !b) (decide_eq_true l))) ?_)
     refine W.adv 1 (W.gb true ((!(decide ((c.getD (a).toNat 0) = e))) == false) (congrArg (fun b => b == false) (congrArg (fun b => !b) (decide_eq_true l))) ?_)
     refine W.adv 1 (W.gb true ((!(decide ((c.getD (a).toNat 0) = e))) == false) (congrArg (fun b => b == false) (congrArg (fun b => !b) (decide_eq_true l))) ?_)
     refine W.adv 1 (W.gb true ((!(decide ((c.getD (a).toNat 0) = e))) == false) (congrArg (fun b => b == false) (congrArg (fun b => !b) (decide_eq_true l))) ?_)
     obtain ⟨bd, be, bf, cf, H⟩ := H
     refine W.opS (O.ixE E_ref08_Q 3 .i64 v e (false, [], []) (bd, be, bf) b7 bv cf) ?_
     refine W.gb true ((!(decide ((c.getD (a).toNat 0) = e))) == false) (congrArg (fun b => b == false) (congrArg (fun b => !b) (decide_eq_true l))) ?_
     refine W.adv 1 (W.gb true ((!(decide ((c.getD (a).toNat 0) = e))) == false) (congrArg (fun b => b == false) (congrArg (fun b => !b) (decide_eq_true l))) ?_)
     obtain ⟨bg, bi, bk, cg, H⟩ := H
     refine W.cl 14 [(.agg [.bool bd, .ints .i64 be, .ints .i64 bf])] (.agg [.bool bg, .ints .u64 bi, .ints .u64 bk]) cg ?_
     refine W.gb true ((!(decide ((c.getD (a).toNat 0) = e))) == false) (congrArg (fun b => b == false) (congrArg (fun b => !b) (decide_eq_true l))) ?_
     obtain ⟨au, ci, H⟩ := H
     refine W.cl 13 [(.agg [.bool ba, .ints .u64 bb, .ints .u64 bc]), (.agg [.bool bg, .ints .u64 bi, .ints .u64 bk])] (.bool au) ci ?_
     refine W.gb true ((!(decide ((c.getD (a).toNat 0) = e))) == false) (congrArg (fun b => b == false) (congrArg (fun b => !b) (decide_eq_true l))) ?_
     refine W.adv 1 (W.opS (O.pk (!(decide ((c.getD (a).toNat 0) = e))) false (.bool true) (.bool (!au)) (congrArg (fun b => !b) (decide_eq_true l))) ?_)
     refine W.adv 2 ?_
     rcases H with ⟨b3, H⟩ | ⟨b3, H⟩
     ·refine W.cb false (!au) (congrArg (fun b => !b) b3) ?_
      exact W.adv 15 (W.tl H)
     ·refine W.cb true (!au) (congrArg (fun b => !b) (bfalse b3)) ?_
      exact W.adv 12 (W.fr (LAns.of (d := (.bool false)) (by kernel_rfl) (by rw [H])))
    ·refine W.gb false ((!(decide ((c.getD (a).toNat 0) = e))) == false) (congrArg (fun b => b == false) (congrArg (fun b => !b) (decide_eq_false l))) ?_
     refine W.gb false ((!(decide ((c.getD (a).toNat 0) = e))) == false) (congrArg (fun b => b == false) (congrArg (fun b => !b) (decide_eq_false l))) ?_
     refine W.gb false ((!(decide ((c.getD (a).toNat 0) = e))) == false) (congrArg (fun b => b == false) (congrArg (fun b => !b) (decide_eq_false l))) ?_
     refine W.gb false ((!(decide ((c.getD (a).toNat 0) = e))) == false) (congrArg (fun b => b == false) (congrArg (fun b => !b) (decide_eq_false l))) ?_
     refine W.gb false ((!(decide ((c.getD (a).toNat 0) = e))) == false) (congrArg (fun b => b == false) (congrArg (fun b => !b) (decide_eq_false l))) ?_
     refine W.gb false ((!(decide ((c.getD (a).toNat 0) = e))) == false) (congrArg (fun b => b == false) (congrArg (fun b => !b) (decide_eq_false l))) ?_
     refine W.gb false ((!(decide ((c.getD (a).toNat 0) = e))) == false) (congrArg (fun b => b == false) (congrArg (fun b => !b) (decide_eq_false l))) ?_
     refine W.gb false ((!(decide ((c.getD (a).toNat 0) = e))) == false) (congrArg (fun b => b == false) (congrArg (fun b => !b) (decide_eq_false l))) ?_
     refine W.gb false ((!(decide ((c.getD (a).toNat 0) = e))) == false) (congrArg (fun b => b == false) (congrArg (fun b => !b) (decide_eq_false l))) ?_
     refine W.gb false ((!(decide ((c.getD (a).toNat 0) = e))) == false) (congrArg (fun b => b == false) (congrArg (fun b => !b) (decide_eq_false l))) ?_
     refine W.gb false ((!(decide ((c.getD (a).toNat 0) = e))) == false) (congrArg (fun b => b == false) (congrArg (fun b => !b) (decide_eq_false l))) ?_
     refine W.gb false ((!(decide ((c.getD (a).toNat 0) = e))) == false) (congrArg (fun b => b == false) (congrArg (fun b => !b) (decide_eq_false l))) ?_
     refine W.gb false ((!(decide ((c.getD (a).toNat 0) = e))) == false) (congrArg (fun b => b == false) (congrArg (fun b => !b) (decide_eq_false l))) ?_
     refine W.opS (O.pk (!(decide ((c.getD (a).toNat 0) = e))) true (.bool true) (.tuple []) (congrArg (fun b => !b) (decide_eq_false l))) ?_
     exact W.adv 15 (W.fr (LAns.of (d := (.bool false)) (by kernel_rfl) (by rw [H])))
 ·refine W.cf (e < (v.length : Int)) bv ?_
  refine W.adv 13 ?_
  rcases H with ⟨bw, H⟩ | ⟨bw, H⟩
  ·refine W.gt (a = (c.length : Int)) bw ?_
   obtain ⟨bl, ck, H⟩ := H
   refine W.cl 10 [] (.bool bl) ck ?_
   refine W.opS (O.pk (decide (a = (c.length : Int))) true (.bool bl) (.bool false) (decide_eq_true bw)) ?_
   exact W.adv 4 (W.fr (LAns.of (d := (.bool bl)) (by kernel_rfl) (by rw [H])))
  ·refine W.gf (a = (c.length : Int)) bw ?_
   refine W.opS (O.pk (decide (a = (c.length : Int))) false (.tuple []) (.bool false) (decide_eq_false bw)) ?_
   exact W.adv 4 (W.fr (LAns.of (d := (.bool false)) (by kernel_rfl) (by rw [H])))
theorem law30_StepOf_go (H : ∃ an ap aq ar, law30_One_R av an ap aq ar ∧ ∃ a6, law30_few_R an ap aq ar ae a6 ∧ ((a6 = true ∧ ∃ bm bn bp bq, law30_One_R av bm bn bp bq ∧ ∃ ab s aw ay az p, step_Of_R bm bn bp bq ae ab s aw ay az p ∧ ∃ bz a2 a3 a4 f, ref30_Of_R an ap aq ar ae bz a2 a3 a4 f ∧ (p = f ∧ ((f = 0 ∧ ∃ br bs bt, ref08_Back_R a2 a3 a4 br bs bt ∧ ∃ u, ref08_Same_R aw ay az br bs bt u ∧ (u = true ∧ ((s.length : Int) = (ab.length : Int) ∧ law30_StepOf_l0 0 0 ab s aw ay az bz a2 a3 a4 z ∨ ¬ (s.length : Int) = (ab.length : Int) ∧ (z = false)) ∨ ¬ u = true ∧ (z = false))) ∨ ¬ f = 0 ∧ (((wi ((ab.length : Int) + (s.length : Int))) = 0 ∧ ∃ bu, law30_works_R bu ∧ (z = bu)) ∨ ¬ (wi ((ab.length : Int) + (s.length : Int))) = 0 ∧ (z = false))) ∨ ¬ p = f ∧ (z = false))) ∨ ¬ a6 = true ∧ ∃ b0, law30_works_R b0 ∧ (z = b0))) : law30_StepOf_R av ae z := by
 refine W.li Tryz.func3 ?_
 refine W.adv 8 ?_
 obtain ⟨an, ap, aq, ar, cl, H⟩ := H
 refine W.cl 8 [(.list 4 (av.map E_api_Net))] (.agg [.str an, (.list 2 (ap.map E_api_Node)), (.list 6 (aq.map E_api_Link)), (.list 5 (ar.map E_api_Rule))]) cl ?_
 refine W.adv 9 ?_
 obtain ⟨a6, cm, H⟩ := H
 refine W.cl 9 [(.agg [.str an, (.list 2 (ap.map E_api_Node)), (.list 6 (aq.map E_api_Link)), (.list 5 (ar.map E_api_Rule))]), .int .i64 ae] (.bool a6) cm ?_
 refine W.adv 3 ?_
 rcases H with ⟨b4, H⟩ | ⟨b4, H⟩
 ·refine W.cb false (!a6) (congrArg (fun b => !b) b4) ?_
  refine W.adv 5 ?_
  obtain ⟨bm, bn, bp, bq, cn, H⟩ := H
  refine W.cl 8 [(.list 4 (av.map E_api_Net))] (.agg [.str bm, (.list 2 (bn.map E_api_Node)), (.list 6 (bp.map E_api_Link)), (.list 5 (bq.map E_api_Rule))]) cn ?_
  refine W.adv 1 ?_
  obtain ⟨ab, s, aw, ay, az, p, cp, H⟩ := H
  refine W.cl 11 [(.agg [.str bm, (.list 2 (bn.map E_api_Node)), (.list 6 (bp.map E_api_Link)), (.list 5 (bq.map E_api_Rule))]), .int .i64 ae] (.tuple [(.agg [.ints .i64 ab, (.list 3 (s.map E_api_Rat)), .bool aw, .ints .u64 ay, .ints .u64 az]), .int .i64 p]) cp ?_
  refine W.adv 12 ?_
  obtain ⟨bz, a2, a3, a4, f, cq, H⟩ := H
  refine W.cl 12 [(.agg [.str an, (.list 2 (ap.map E_api_Node)), (.list 6 (aq.map E_api_Link)), (.list 5 (ar.map E_api_Rule))]), .int .i64 ae] (.tuple [(.agg [(.list 3 (bz.map E_ref08_Q)), .bool a2, .ints .i64 a3, .ints .i64 a4]), .int .i64 f]) cq ?_
  refine W.adv 15 ?_
  rcases H with ⟨q, H⟩ | ⟨q, H⟩
  ·refine W.gb true ((!(decide (p = f))) == false) (congrArg (fun b => b == false) (congrArg (fun b => !b) (decide_eq_true q))) ?_
   refine W.adv 1 (W.gb true ((!(decide (p = f))) == false) (congrArg (fun b => b == false) (congrArg (fun b => !b) (decide_eq_true q))) ?_)
   refine W.adv 1 (W.opS (O.pk (!(decide (p = f))) false (.bool true) (.bool (!(decide (f = 0)))) (congrArg (fun b => !b) (decide_eq_true q))) ?_)
   refine W.adv 2 ?_
   rcases H with ⟨b5, H⟩ | ⟨b5, H⟩
   ·refine W.cb false (!(decide (f = 0))) (congrArg (fun b => !b) (decide_eq_true b5)) ?_
    refine W.adv 9 ?_
    obtain ⟨br, bs, bt, cr, H⟩ := H
    refine W.cl 14 [(.agg [.bool a2, .ints .i64 a3, .ints .i64 a4])] (.agg [.bool br, .ints .u64 bs, .ints .u64 bt]) cr ?_
    obtain ⟨u, cs, H⟩ := H
    refine W.cl 13 [(.agg [.bool aw, .ints .u64 ay, .ints .u64 az]), (.agg [.bool br, .ints .u64 bs, .ints .u64 bt])] (.bool u) cs ?_
    refine W.adv 2 ?_
    rcases H with ⟨ac, H⟩ | ⟨ac, H⟩
    ·refine W.gb true ((!u) == false) (congrArg (fun b => b == false) (congrArg (fun b => !b) ac)) ?_
     refine W.adv 1 (W.gb true ((!u) == false) (congrArg (fun b => b == false) (congrArg (fun b => !b) ac)) ?_)
     refine W.adv 1 (W.gb true ((!u) == false) (congrArg (fun b => b == false) (congrArg (fun b => !b) ac)) ?_)
     refine W.opS (O.ln s E_api_Rat) ?_
     refine W.gb true ((!u) == false) (congrArg (fun b => b == false) (congrArg (fun b => !b) ac)) ?_
     refine W.adv 1 (W.gb true ((!u) == false) (congrArg (fun b => b == false) (congrArg (fun b => !b) ac)) ?_)
     refine W.adv 1 (W.gb true ((!u) == false) (congrArg (fun b => b == false) (congrArg (fun b => !b) ac)) ?_)
     refine W.adv 1 (W.gb true ((!u) == false) (congrArg (fun b => b == false) (congrArg (fun b => !b) ac)) ?_)
     refine W.adv 1 (W.opS (O.pk (!u) false (.bool true) (.bool (!(decide ((s.length : Int) = (ab.length : Int))))) (congrArg (fun b => !b) ac)) ?_)
     refine W.adv 2 ?_
     rcases H with ⟨b6, H⟩ | ⟨b6, H⟩
     ·refine W.cb false (!(decide ((s.length : Int) = (ab.length : Int)))) (congrArg (fun b => !b) (decide_eq_true b6)) ?_
      exact W.adv 14 (W.tl H)
     ·refine W.cb true (!(decide ((s.length : Int) = (ab.length : Int)))) (congrArg (fun b => !b) (decide_eq_false b6)) ?_
      exact W.adv 7 (W.fr (LAns.of (d := (.bool false)) (by kernel_rfl) (by rw [H])))
    ·refine W.gb false ((!u) == false) (congrArg (fun b => b == false) (congrArg (fun b => !b) (bfalse ac))) ?_
     refine W.gb false ((!u) == false) (congrArg (fun b => b == false) (congrArg (fun b => !b) (bfalse ac))) ?_
     refine W.gb false ((!u) == false) (congrArg (fun b => b == false) (congrArg (fun b => !b) (bfalse ac))) ?_
     refine W.gb false ((!u) == false) (congrArg (fun b => b == false) (congrArg (fun b => !b) (bfalse ac))) ?_
     refine W.gb false ((!u) == false) (congrArg (fun b => b == false) (congrArg (fun b => !b) (bfalse ac))) ?_
     refine W.gb false ((!u) == false) (congrArg (fun b => b == false) (congrArg (fun b => !b) (bfalse ac))) ?_
     refine W.gb false ((!u) == false) (congrArg (fun b => b == false) (congrArg (fun b => !b) (bfalse ac))) ?_
     refine W.opS (O.pk (!u) true (.bool true) (.tuple []) (congrArg (fun b => !b) (bfalse ac))) ?_
     exact W.adv 10 (W.fr (LAns.of (d := (.bool false)) (by kernel_rfl) (by rw [H])))
   ·refine W.cb true (!(decide (f = 0))) (congrArg (fun b => !b) (decide_eq_false b5)) ?_
    refine W.adv 6 (W.gt (p = f) q ?_)
    refine W.adv 1 (W.gt (p = f) q ?_)
    refine W.adv 1 (W.gt (p = f) q ?_)
    refine W.adv 1 (W.gt (p = f) q ?_)
    refine W.adv 1 (W.gt (p = f) q ?_)
    refine W.adv 1 (W.gt (p = f) q ?_)
    refine W.opS (O.ln s E_api_Rat) ?_
    refine W.gt (p = f) q ?_
    refine W.adv 1 (W.gt (p = f) q ?_)
    refine W.adv 1 (W.opS (O.pk (decide (p = f)) true (.bool (decide ((wi ((ab.length : Int) + (s.length : Int))) = 0))) (.bool false) (decide_eq_true q)) ?_)
    refine W.adv 1 ?_
    rcases H with ⟨b1, H⟩ | ⟨b1, H⟩
    ·refine W.gt ((wi ((ab.length : Int) + (s.length : Int))) = 0) b1 ?_
     obtain ⟨bu, ct, H⟩ := H
     refine W.cl 10 [] (.bool bu) ct ?_
     refine W.opS (O.pk (decide ((wi ((ab.length : Int) + (s.length : Int))) = 0)) true (.bool bu) (.bool false) (decide_eq_true b1)) ?_
     exact W.adv 5 (W.fr (LAns.of (d := (.bool bu)) (by kernel_rfl) (by rw [H])))
    ·refine W.gf ((wi ((ab.length : Int) + (s.length : Int))) = 0) b1 ?_
     refine W.opS (O.pk (decide ((wi ((ab.length : Int) + (s.length : Int))) = 0)) false (.tuple []) (.bool false) (decide_eq_false b1)) ?_
     exact W.adv 5 (W.fr (LAns.of (d := (.bool false)) (by kernel_rfl) (by rw [H])))
  ·refine W.gb false ((!(decide (p = f))) == false) (congrArg (fun b => b == false) (congrArg (fun b => !b) (decide_eq_false q))) ?_
   refine W.gb false ((!(decide (p = f))) == false) (congrArg (fun b => b == false) (congrArg (fun b => !b) (decide_eq_false q))) ?_
   refine W.opS (O.pk (!(decide (p = f))) true (.bool true) (.tuple []) (congrArg (fun b => !b) (decide_eq_false q))) ?_
   refine W.adv 9 (W.gf (p = f) q ?_)
   refine W.gf (p = f) q ?_
   refine W.gf (p = f) q ?_
   refine W.gf (p = f) q ?_
   refine W.gf (p = f) q ?_
   refine W.gf (p = f) q ?_
   refine W.gf (p = f) q ?_
   refine W.gf (p = f) q ?_
   refine W.opS (O.pk (decide (p = f)) false (.tuple []) (.bool false) (decide_eq_false q)) ?_
   exact W.adv 8 (W.fr (LAns.of (d := (.bool false)) (by kernel_rfl) (by rw [H])))
 ·refine W.cb true (!a6) (congrArg (fun b => !b) (bfalse b4)) ?_
  refine W.adv 2 ?_
  obtain ⟨b0, cu, H⟩ := H
  refine W.cl 10 [] (.bool b0) cu ?_
  exact W.adv 5 (W.fr (LAns.of (d := (.bool b0)) (by kernel_rfl) (by rw [H])))
end
end Go.Proofs.YtjcdkemnflmfiaaGreatA
