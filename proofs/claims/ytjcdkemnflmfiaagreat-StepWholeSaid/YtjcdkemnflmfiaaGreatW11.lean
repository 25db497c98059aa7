/- Walks through the functions: what makes each relation true. -/
import Derived.Test.YtjcdkemnflmfiaaGreatW0
set_option linter.unusedVariables false
set_option maxRecDepth 100000
namespace Go.Proofs.YtjcdkemnflmfiaaGreatA
open Go Go.Proofs
section
variable (a u : Int) (aa : ByteArray) (ab ac : Int) (ad : Bool) (c : List T71) (ae : ByteArray) (af ag : Int) (ai : Bool) (f : ByteArray) (k l : Int) (p : Bool) (q : List T_api_Hop) (e : List T71) (br : D) (ay : Blk) (am : D) (z : Blk) (bi : ByteArray) (bn bp : Int) (bq : Bool) (b3 : List T71) (an : ByteArray) (ap aq : Int) (ar : Bool) (au : List T71)
noncomputable def ref22_CleanRule_l0_s (a : Int) (aa : ByteArray) (ab ac : Int) (ad : Bool) (c : List T71) (ae : ByteArray) (af ag : Int) (ai : Bool) (f : ByteArray) (k l : Int) (p : Bool) (e : List T71) (am : D) (z : Blk) (j : Nat → D) (jb : Nat → Blk) (vs : Nat → Nat) : Cf := cfAt Tryz.f16 [1, 1, 0, 1, 0] ⟨([j 0, .pref 1 1 0 0, .pref 2 1 0 0, .pref 3 1 0 0, .int .i64 a] ++ J j 5 74), ([jb 0, ⟨1, false, .rows 5 [(.agg [.str aa, .int .u32 ab, .int .i64 ac, .bool ad, (.list 1 (c.map E71))])]⟩, ⟨1, false, .rows 5 [(.agg [.str ae, .int .u32 af, .int .i64 ag, .bool ai, .nilS])]⟩, ⟨1, false, .rows 5 [(.agg [.str f, .int .u32 k, .int .i64 l, .bool p, am])]⟩] ++ (J jb 4 72 ++ [z, jb 77, jb 78]))⟩
def ref22_CleanRule_l0 : Prop := ∀ am z, Opt E71 76 1 am z e → ∀ j jb vs, W C F 16 0 (ref22_CleanRule_l0_s a aa ab ac ad c ae af ag ai f k l p e am z j jb vs) (Ans C Tryz.f16 (.agg [.str an, .int .u32 ap, .int .i64 aq, .bool ar, (.list 1 (au.map E71))]))
noncomputable def ref22_CleanRule_l1_s (a u : Int) (aa : ByteArray) (ab ac : Int) (ad : Bool) (c : List T71) (ae : ByteArray) (af ag : Int) (ai : Bool) (f : ByteArray) (k l : Int) (p : Bool) (q : List T_api_Hop) (e : List T71) (br : D) (ay : Blk) (am : D) (z : Blk) (j : Nat → D) (jb : Nat → Blk) (vs : Nat → Nat) : Cf := cfAt Tryz.f16 [1, 1, 0, 1, 0, 0, 1, 0, 0, 1, 0, 1, 0] ⟨([j 0, .pref 1 1 0 0, .pref 2 1 0 0, .pref 3 1 0 0, .int .i64 a, br, .int .i64 u] ++ J j 7 72), ([jb 0, ⟨1, false, .rows 5 [(.agg [.str aa, .int .u32 ab, .int .i64 ac, .bool ad, (.list 1 (c.map E71))])]⟩, ⟨1, false, .rows 5 [(.agg [.str ae, .int .u32 af, .int .i64 ag, .bool ai, .nilS])]⟩, ⟨1, false, .rows 5 [(.agg [.str f, .int .u32 k, .int .i64 l, .bool p, am])]⟩] ++ (J jb 4 67 ++ ([ay] ++ (J jb 72 4 ++ [z, jb 77, jb 78]))))⟩
def ref22_CleanRule_l1 : Prop := ∀ br ay, Opt E_api_Hop 71 2 br ay q → ∀ am z, Opt E71 76 1 am z e → ∀ j jb vs, W C F 16 0 (ref22_CleanRule_l1_s a u aa ab ac ad c ae af ag ai f k l p q e br ay am z j jb vs) (Ans C Tryz.f16 (.agg [.str an, .int .u32 ap, .int .i64 aq, .bool ar, (.list 1 (au.map E71))]))
variable {a u aa ab ac ad c ae af ag ai f k l p q e br ay am z bi bn bp bq b3 an ap aq ar au}
theorem ref22_CleanRule_l0_go (H : a < (c.length : Int) ∧ (a < 4 ∧ ref22_CleanRule_l1 a 0 aa ab ac ad c ae af ag ai f k l p ([] : List T_api_Hop) e an ap aq ar au ∨ ¬ a < 4 ∧ an = f ∧ ap = k ∧ aq = l ∧ ar = p ∧ au = e) ∨ ¬ a < (c.length : Int) ∧ an = f ∧ ap = k ∧ aq = l ∧ ar = p ∧ au = e) : ref22_CleanRule_l0 a aa ab ac ad c ae af ag ai f k l p e an ap aq ar au := by
 intro am z az j jb vs
 refine W.adv 1 (W.adv 6 ?_)
 refine W.opS (O.ln c E71) ?_
 refine W.adv 2 ?_
 rcases H with ⟨bb, H⟩ | ⟨bb, H⟩
 ·refine W.gt (a < (c.length : Int)) bb ?_
  refine W.adv 1 (W.gt (a < (c.length : Int)) bb ?_)
  refine W.adv 1 (W.opS (O.pk (decide (a < (c.length : Int))) true (.bool (decide (a < 4))) (.bool false) (decide_eq_true bb)) ?_)
  refine W.adv 2 ?_
  rcases H with ⟨b4, H⟩ | ⟨b4, H⟩
  ·refine W.ct (a < 4) b4 ?_
   exact W.adv 17 (W.tl (P := ref22_CleanRule_l1_s a 0 aa ab ac ad c ae af ag ai f k l p ([] : List T_api_Hop) e .nilS (jb 71) am z) (H _ _ Opt.nil _ _ az))
  ·refine W.cf (a < 4) b4 ?_
   refine W.adv 12 ?_
   rcases az with ⟨rfl, a0⟩ | ⟨s, rfl, rfl⟩
   ·subst a0
    exact W.fr (Ans.q (.agg [.str f, .int .u32 k, .int .i64 l, .bool p, (.list 1 (([] : List T71).map E71))]) (by rw [H.1, H.2.1, H.2.2.1, H.2.2.2.1, H.2.2.2.2]))
   ·exact W.fr (Ans.of (d := (.agg [.str f, .int .u32 k, .int .i64 l, .bool p, (.sref 76 (s + 1) 1 0 e.length)])) (d' := (.agg [.str f, .int .u32 k, .int .i64 l, .bool p, (.list 1 (e.map E71))])) (e' := (.agg [.str f, .int .u32 k, .int .i64 l, .bool p, (.list 1 (e.map E71))])) (by kernel_rfl) ((congrArg (fun h => reify h DEPTH (.agg [.str f, .int .u32 k, .int .i64 l, .bool p, (.sref 76 (s + 1) 1 0 e.length)])) (tidy_ver (b := 76) (v := s) (fz := false) (y := .rows 1 (e.map E71)) (by kernel_rfl))).trans (rf_agg (rf_cons (by kernel_rfl) (rf_cons (by kernel_rfl) (rf_cons (by kernel_rfl) (rf_cons (by kernel_rfl) (rf_cons (rf_fullE (enc := E71) E71_t (b := 76) (v := (s + 1)) (w := (s + 1)) (fz := false) (xs := e) (by kernel_rfl) rfl rfl) rf_nil))))))) (by kernel_rfl) (by rw [H.1, H.2.1, H.2.2.1, H.2.2.2.1, H.2.2.2.2]))
 ·refine W.gf (a < (c.length : Int)) bb ?_
  refine W.gf (a < (c.length : Int)) bb ?_
  refine W.opS (O.pk (decide (a < (c.length : Int))) false (.tuple []) (.bool false) (decide_eq_false bb)) ?_
  refine W.adv 15 ?_
  rcases az with ⟨rfl, a0⟩ | ⟨s, rfl, rfl⟩
  ·subst a0
   exact W.fr (Ans.q (.agg [.str f, .int .u32 k, .int .i64 l, .bool p, (.list 1 (([] : List T71).map E71))]) (by rw [H.1, H.2.1, H.2.2.1, H.2.2.2.1, H.2.2.2.2]))
  ·exact W.fr (Ans.of (d := (.agg [.str f, .int .u32 k, .int .i64 l, .bool p, (.sref 76 (s + 1) 1 0 e.length)])) (d' := (.agg [.str f, .int .u32 k, .int .i64 l, .bool p, (.list 1 (e.map E71))])) (e' := (.agg [.str f, .int .u32 k, .int .i64 l, .bool p, (.list 1 (e.map E71))])) (by kernel_rfl) ((congrArg (fun h => reify h DEPTH (.agg [.str f, .int .u32 k, .int .i64 l, .bool p, (.sref 76 (s + 1) 1 0 e.length)])) (tidy_ver (b := 76) (v := s) (fz := false) (y := .rows 1 (e.map E71)) (by kernel_rfl))).trans (rf_agg (rf_cons (by kernel_rfl) (rf_cons (by kernel_rfl) (rf_cons (by kernel_rfl) (rf_cons (by kernel_rfl) (rf_cons (rf_fullE (enc := E71) E71_t (b := 76) (v := (s + 1)) (w := (s + 1)) (fz := false) (xs := e) (by kernel_rfl) rfl rfl) rf_nil))))))) (by kernel_rfl) (by rw [H.1, H.2.1, H.2.2.1, H.2.2.2.1, H.2.2.2.2]))
theorem ref22_CleanRule_l1_go (H : 0 ≤ a ∧ a < (c.length : Int) ∧ (u < ((c.getD (a).toNat []).length : Int) ∧ ((u < 5 ∧ 0 ≤ u ∧ ∃ b5 al, (c.getD (a).toNat []).getD (u).toNat (ByteArray.empty, 0) = (b5, al) ∧ ((al < (-1000000) ∧ ∃ bk b6, (c.getD (a).toNat []).getD (u).toNat (ByteArray.empty, 0) = (bk, b6) ∧ ∃ a8, ref22_short_R bk a8 ∧ (q.length + 1 + 192) * (24 + 1) ≤ 70368744177664 ∧ ∃ a4, a4 = q ++ [(a8, 2)] ∧ ref22_CleanRule_l1 a (wi (u + 1)) aa ab ac ad c ae af ag ai f k l p a4 e an ap aq ar au) ∨ ¬ al < (-1000000) ∧ ((2147483648 < al ∧ ∃ bl b7, (c.getD (a).toNat []).getD (u).toNat (ByteArray.empty, 0) = (bl, b7) ∧ ∃ a9, ref22_short_R bl a9 ∧ (q.length + 1 + 192) * (24 + 1) ≤ 70368744177664 ∧ ∃ a5, a5 = q ++ [(a9, 2)] ∧ ref22_CleanRule_l1 a (wi (u + 1)) aa ab ac ad c ae af ag ai f k l p a5 e an ap aq ar au) ∨ ¬ 2147483648 < al ∧ ∃ bm b8, (c.getD (a).toNat []).getD (u).toNat (ByteArray.empty, 0) = (bm, b8) ∧ ∃ ba, ref22_short_R bm ba ∧ (q.length + 1 + 192) * (24 + 1) ≤ 70368744177664 ∧ ∃ a6, a6 = q ++ [(ba, al)] ∧ ref22_CleanRule_l1 a (wi (u + 1)) aa ab ac ad c ae af ag ai f k l p a6 e an ap aq ar au))) ∨ ¬ u < 5 ∧ (e.length + 1 + 192) * (24 + 1) ≤ 70368744177664 ∧ ∃ av, av = e ++ [q] ∧ ref22_CleanRule_l0 (wi (a + 1)) aa ab ac ad c ae af ag ai f k l p av an ap aq ar au) ∨ ¬ u < ((c.getD (a).toNat []).length : Int) ∧ (e.length + 1 + 192) * (24 + 1) ≤ 70368744177664 ∧ ∃ aw, aw = e ++ [q] ∧ ref22_CleanRule_l0 (wi (a + 1)) aa ab ac ad c ae af ag ai f k l p aw an ap aq ar au)) : ref22_CleanRule_l1 a u aa ab ac ad c ae af ag ai f k l p q e an ap aq ar au := by
 intro br ay bt am z az j jb vs
 refine W.adv 1 (W.adv 7 ?_)
 obtain ⟨bu, bv, H⟩ := H
 refine W.opS (O.ixE E71 1 .i64 c a [] (c.getD (a).toNat []) bu bv rfl) ?_
 refine W.adv 1 (W.opS (O.ln (c.getD (a).toNat []) E_api_Hop) ?_)
 refine W.adv 2 ?_
 rcases H with ⟨a1, H⟩ | ⟨a1, H⟩
 ·refine W.gt (u < ((c.getD (a).toNat []).length : Int)) a1 ?_
  refine W.adv 1 (W.gt (u < ((c.getD (a).toNat []).length : Int)) a1 ?_)
  refine W.adv 1 (W.opS (O.pk (decide (u < ((c.getD (a).toNat []).length : Int))) true (.bool (decide (u < 5))) (.bool false) (decide_eq_true a1)) ?_)
  refine W.adv 2 ?_
  rcases H with ⟨b9, H⟩ | ⟨b9, H⟩
  ·refine W.ct (u < 5) b9 ?_
   refine W.adv 9 (W.opS (O.ixE E71 1 .i64 c a [] (c.getD (a).toNat []) bu bv rfl) ?_)
   refine W.adv 2 ?_
   obtain ⟨b2, H⟩ := H
   obtain ⟨b5, al, ck, H⟩ := H
   refine W.opS (O.ixE E_api_Hop 2 .i64 (c.getD (a).toNat []) u (ByteArray.empty, 0) (b5, al) b2 a1 ck) ?_
   refine W.adv 11 ?_
   rcases H with ⟨bc, H⟩ | ⟨bc, H⟩
   ·refine W.gt' (al < (-1000000)) bc ?_
    refine W.gt' (al < (-1000000)) bc ?_
    refine W.opS (O.pk (decide (al < (-1000000))) true (.bool true) (.tuple []) (decide_eq_true bc)) ?_
    refine W.adv 12 (W.opS (O.ixE E71 1 .i64 c a [] (c.getD (a).toNat []) bu bv rfl) ?_)
    refine W.adv 2 ?_
    obtain ⟨bk, b6, cl, H⟩ := H
    refine W.opS (O.ixE E_api_Hop 2 .i64 (c.getD (a).toNat []) u (ByteArray.empty, 0) (bk, b6) b2 a1 cl) ?_
    refine W.adv 2 ?_
    obtain ⟨a8, cm, H⟩ := H
    refine W.cl 58 [.str bk] (.str a8) cm ?_
    refine W.adv 3 ?_
    rcases bt with ⟨rfl, a7⟩ | ⟨ak, rfl, rfl⟩
    ·subst a7
     obtain ⟨ca, H⟩ := H
     obtain ⟨a4, bw, H⟩ := H
     have cc : 1 = a4.length := by rw [bw] <;> rfl
     refine W.opH (O.apENil E_api_Hop (.lit (.list 2 [(.agg [.str a8, .int .i64 2])])) 24 71 ay.ver 2 [(a8, 2)] (bw.trans (List.nil_append _)) (by first | (simp; done) | (simp at ca ⊢; omega) | omega)) ?_
     exact W.adv 10 (W.tl (P := ref22_CleanRule_l1_s a (wi (u + 1)) aa ab ac ad c ae af ag ai f k l p a4 e (.sref 71 (ay.ver + 1) 2 0 1) (⟨(ay.ver + 1), false, .rows 2 (a4.map E_api_Hop)⟩) am z) (H _ _ (Opt.row (w := ay.ver) (by first | rfl | omega) cc) _ _ az))
    ·obtain ⟨ca, H⟩ := H
     obtain ⟨a4, bw, H⟩ := H
     have cc : (q.length + 1) = a4.length := by rw [bw, List.length_append] <;> rfl
     refine W.opK (O.apERow E_api_Hop (.lit (.list 2 [(.agg [.str a8, .int .i64 2])])) 24 71 (ak + 1) 71 (ak + 1) q.length 2 q [(a8, 2)] bw rfl ca) ?_
     exact W.adv 10 (W.tl (P := ref22_CleanRule_l1_s a (wi (u + 1)) aa ab ac ad c ae af ag ai f k l p a4 e (.sref 71 ((ak + 1) + 1) 2 0 (q.length + 1)) (⟨((ak + 1) + 1), false, .rows 2 (a4.map E_api_Hop)⟩) am z) (H _ _ (Opt.row (w := (ak + 1)) (by first | rfl | omega) cc) _ _ az))
   ·refine W.gf' (al < (-1000000)) bc ?_
    refine W.adv 1 (W.gf' (al < (-1000000)) bc ?_)
    refine W.adv 1 (W.opS (O.pk (decide (al < (-1000000))) false (.bool true) (.bool (decide (2147483648 < al))) (decide_eq_false bc)) ?_)
    refine W.adv 2 ?_
    rcases H with ⟨cd, H⟩ | ⟨cd, H⟩
    ·refine W.ct (2147483648 < al) cd ?_
     refine W.adv 9 (W.opS (O.ixE E71 1 .i64 c a [] (c.getD (a).toNat []) bu bv rfl) ?_)
     refine W.adv 2 ?_
     obtain ⟨bl, b7, cn, H⟩ := H
     refine W.opS (O.ixE E_api_Hop 2 .i64 (c.getD (a).toNat []) u (ByteArray.empty, 0) (bl, b7) b2 a1 cn) ?_
     refine W.adv 2 ?_
     obtain ⟨a9, cp, H⟩ := H
     refine W.cl 58 [.str bl] (.str a9) cp ?_
     refine W.adv 3 ?_
     rcases bt with ⟨rfl, a7⟩ | ⟨ak, rfl, rfl⟩
     ·subst a7
      obtain ⟨ce, H⟩ := H
      obtain ⟨a5, bz, H⟩ := H
      have cf : 1 = a5.length := by rw [bz] <;> rfl
      refine W.opH (O.apENil E_api_Hop (.lit (.list 2 [(.agg [.str a9, .int .i64 2])])) 24 71 ay.ver 2 [(a9, 2)] (bz.trans (List.nil_append _)) (by first | (simp; done) | (simp at ce ⊢; omega) | omega)) ?_
      exact W.adv 10 (W.tl (P := ref22_CleanRule_l1_s a (wi (u + 1)) aa ab ac ad c ae af ag ai f k l p a5 e (.sref 71 (ay.ver + 1) 2 0 1) (⟨(ay.ver + 1), false, .rows 2 (a5.map E_api_Hop)⟩) am z) (H _ _ (Opt.row (w := ay.ver) (by first | rfl | omega) cf) _ _ az))
     ·obtain ⟨ce, H⟩ := H
      obtain ⟨a5, bz, H⟩ := H
      have cf : (q.length + 1) = a5.length := by rw [bz, List.length_append] <;> rfl
      refine W.opK (O.apERow E_api_Hop (.lit (.list 2 [(.agg [.str a9, .int .i64 2])])) 24 71 (ak + 1) 71 (ak + 1) q.length 2 q [(a9, 2)] bz rfl ce) ?_
      exact W.adv 10 (W.tl (P := ref22_CleanRule_l1_s a (wi (u + 1)) aa ab ac ad c ae af ag ai f k l p a5 e (.sref 71 ((ak + 1) + 1) 2 0 (q.length + 1)) (⟨((ak + 1) + 1), false, .rows 2 (a5.map E_api_Hop)⟩) am z) (H _ _ (Opt.row (w := (ak + 1)) (by first | rfl | omega) cf) _ _ az))
    ·refine W.cf (2147483648 < al) cd ?_
     refine W.adv 7 (W.opS (O.ixE E71 1 .i64 c a [] (c.getD (a).toNat []) bu bv rfl) ?_)
     refine W.adv 2 ?_
     obtain ⟨bm, b8, cq, H⟩ := H
     refine W.opS (O.ixE E_api_Hop 2 .i64 (c.getD (a).toNat []) u (ByteArray.empty, 0) (bm, b8) b2 a1 cq) ?_
     refine W.adv 2 ?_
     obtain ⟨ba, cr, H⟩ := H
     refine W.cl 58 [.str bm] (.str ba) cr ?_
     refine W.adv 3 ?_
     rcases bt with ⟨rfl, a7⟩ | ⟨ak, rfl, rfl⟩
     ·subst a7
      obtain ⟨cg, H⟩ := H
      obtain ⟨a6, b0, H⟩ := H
      have ci : 1 = a6.length := by rw [b0] <;> rfl
      refine W.opH (O.apENil E_api_Hop (.lit (.list 2 [(.agg [.str ba, .int .i64 al])])) 24 71 ay.ver 2 [(ba, al)] (b0.trans (List.nil_append _)) (by first | (simp; done) | (simp at cg ⊢; omega) | omega)) ?_
      exact W.adv 10 (W.tl (P := ref22_CleanRule_l1_s a (wi (u + 1)) aa ab ac ad c ae af ag ai f k l p a6 e (.sref 71 (ay.ver + 1) 2 0 1) (⟨(ay.ver + 1), false, .rows 2 (a6.map E_api_Hop)⟩) am z) (H _ _ (Opt.row (w := ay.ver) (by first | rfl | omega) ci) _ _ az))
     ·obtain ⟨cg, H⟩ := H
      obtain ⟨a6, b0, H⟩ := H
      have ci : (q.length + 1) = a6.length := by rw [b0, List.length_append] <;> rfl
      refine W.opK (O.apERow E_api_Hop (.lit (.list 2 [(.agg [.str ba, .int .i64 al])])) 24 71 (ak + 1) 71 (ak + 1) q.length 2 q [(ba, al)] b0 rfl cg) ?_
      exact W.adv 10 (W.tl (P := ref22_CleanRule_l1_s a (wi (u + 1)) aa ab ac ad c ae af ag ai f k l p a6 e (.sref 71 ((ak + 1) + 1) 2 0 (q.length + 1)) (⟨((ak + 1) + 1), false, .rows 2 (a6.map E_api_Hop)⟩) am z) (H _ _ (Opt.row (w := (ak + 1)) (by first | rfl | omega) ci) _ _ az))
  ·refine W.cf (u < 5) b9 ?_
   refine W.adv 9 ?_
   rcases bt with ⟨rfl, a7⟩ | ⟨ak, rfl, rfl⟩
   ·subst a7
    refine W.adv 1 ?_
    rcases az with ⟨rfl, a0⟩ | ⟨s, rfl, rfl⟩
    ·subst a0
     obtain ⟨bd, H⟩ := H
     obtain ⟨av, a2, H⟩ := H
     have be : 1 = av.length := by rw [a2] <;> rfl
     refine W.opH (O.apENil E71 (.lit (.list 1 [.list 2 []])) 24 76 z.ver 1 [[]] (a2.trans (List.nil_append _)) (by first | (simp; done) | (simp at bd ⊢; omega) | omega)) ?_
     exact W.adv 11 (W.tl (P := ref22_CleanRule_l0_s (wi (a + 1)) aa ab ac ad c ae af ag ai f k l p av (.sref 76 (z.ver + 1) 1 0 1) (⟨(z.ver + 1), false, .rows 1 (av.map E71)⟩)) (H _ _ (Opt.row (w := z.ver) (by first | rfl | omega) be)))
    ·obtain ⟨bd, H⟩ := H
     obtain ⟨av, a2, H⟩ := H
     have be : (e.length + 1) = av.length := by rw [a2, List.length_append] <;> rfl
     refine W.opK (O.apERow E71 (.lit (.list 1 [.list 2 []])) 24 76 (s + 1) 76 (s + 1) e.length 1 e [[]] a2 rfl bd) ?_
     exact W.adv 11 (W.tl (P := ref22_CleanRule_l0_s (wi (a + 1)) aa ab ac ad c ae af ag ai f k l p av (.sref 76 ((s + 1) + 1) 1 0 (e.length + 1)) (⟨((s + 1) + 1), false, .rows 1 (av.map E71)⟩)) (H _ _ (Opt.row (w := (s + 1)) (by first | rfl | omega) be)))
   ·refine W.opF (OpIs.bs (t := 61) (len := 1) (is := [0]) (vs := [(.sref 71 (ak + 1) 2 0 q.length)]) (es := [(.list 2 (q.map E_api_Hop))]) (d := (.lit (.list 1 [(.list 2 (q.map E_api_Hop))]))) (by kernel_rfl) (rf_cons (rf_fullE (enc := E_api_Hop) E_api_Hop_t (b := 71) (v := (ak + 1)) (w := (ak + 1)) (fz := false) (xs := q) (by kernel_rfl) rfl rfl) rf_nil) (by kernel_rfl) rfl) ?_
    rcases az with ⟨rfl, a0⟩ | ⟨s, rfl, rfl⟩
    ·subst a0
     obtain ⟨bd, H⟩ := H
     obtain ⟨av, a2, H⟩ := H
     have be : 1 = av.length := by rw [a2] <;> rfl
     refine W.opH (O.apENil E71 (.lit (.list 1 [(.list 2 (q.map E_api_Hop))])) 24 76 z.ver 1 [q] (a2.trans (List.nil_append _)) (by first | (simp; done) | (simp at bd ⊢; omega) | omega)) ?_
     exact W.adv 11 (W.tl (P := ref22_CleanRule_l0_s (wi (a + 1)) aa ab ac ad c ae af ag ai f k l p av (.sref 76 (z.ver + 1) 1 0 1) (⟨(z.ver + 1), false, .rows 1 (av.map E71)⟩)) (H _ _ (Opt.row (w := z.ver) (by first | rfl | omega) be)))
    ·obtain ⟨bd, H⟩ := H
     obtain ⟨av, a2, H⟩ := H
     have be : (e.length + 1) = av.length := by rw [a2, List.length_append] <;> rfl
     refine W.opK (O.apERow E71 (.lit (.list 1 [(.list 2 (q.map E_api_Hop))])) 24 76 (s + 1) 76 (s + 1) e.length 1 e [q] a2 rfl bd) ?_
     exact W.adv 11 (W.tl (P := ref22_CleanRule_l0_s (wi (a + 1)) aa ab ac ad c ae af ag ai f k l p av (.sref 76 ((s + 1) + 1) 1 0 (e.length + 1)) (⟨((s + 1) + 1), false, .rows 1 (av.map E71)⟩)) (H _ _ (Opt.row (w := (s + 1)) (by first | rfl | omega) be)))
 ·refine W.gf (u < ((c.getD (a).toNat []).length : Int)) a1 ?_
  refine W.gf (u < ((c.getD (a).toNat []).length : Int)) a1 ?_
  refine W.opS (O.pk (decide (u < ((c.getD (a).toNat []).length : Int))) false (.tuple []) (.bool false) (decide_eq_false a1)) ?_
  refine W.adv 12 ?_
  rcases bt with ⟨rfl, a7⟩ | ⟨ak, rfl, rfl⟩
  ·subst a7
   refine W.adv 1 ?_
   rcases az with ⟨rfl, a0⟩ | ⟨s, rfl, rfl⟩
   ·subst a0
    obtain ⟨bf, H⟩ := H
    obtain ⟨aw, a3, H⟩ := H
    have bg : 1 = aw.length := by rw [a3] <;> rfl
    refine W.opH (O.apENil E71 (.lit (.list 1 [.list 2 []])) 24 76 z.ver 1 [[]] (a3.trans (List.nil_append _)) (by first | (simp; done) | (simp at bf ⊢; omega) | omega)) ?_
    exact W.adv 11 (W.tl (P := ref22_CleanRule_l0_s (wi (a + 1)) aa ab ac ad c ae af ag ai f k l p aw (.sref 76 (z.ver + 1) 1 0 1) (⟨(z.ver + 1), false, .rows 1 (aw.map E71)⟩)) (H _ _ (Opt.row (w := z.ver) (by first | rfl | omega) bg)))
   ·obtain ⟨bf, H⟩ := H
    obtain ⟨aw, a3, H⟩ := H
    have bg : (e.length + 1) = aw.length := by rw [a3, List.length_append] <;> rfl
    refine W.opK (O.apERow E71 (.lit (.list 1 [.list 2 []])) 24 76 (s + 1) 76 (s + 1) e.length 1 e [[]] a3 rfl bf) ?_
    exact W.adv 11 (W.tl (P := ref22_CleanRule_l0_s (wi (a + 1)) aa ab ac ad c ae af ag ai f k l p aw (.sref 76 ((s + 1) + 1) 1 0 (e.length + 1)) (⟨((s + 1) + 1), false, .rows 1 (aw.map E71)⟩)) (H _ _ (Opt.row (w := (s + 1)) (by first | rfl | omega) bg)))
  ·refine W.opF (OpIs.bs (t := 61) (len := 1) (is := [0]) (vs := [(.sref 71 (ak + 1) 2 0 q.length)]) (es := [(.list 2 (q.map E_api_Hop))]) (d := (.lit (.list 1 [(.list 2 (q.map E_api_Hop))]))) (by kernel_rfl) (rf_cons (rf_fullE (enc := E_api_Hop) E_api_Hop_t (b := 71) (v := (ak + 1)) (w := (ak + 1)) (fz := false) (xs := q) (by kernel_rfl) rfl rfl) rf_nil) (by kernel_rfl) rfl) ?_
   rcases az with ⟨rfl, a0⟩ | ⟨s, rfl, rfl⟩
   ·subst a0
    obtain ⟨bf, H⟩ := H
    obtain ⟨aw, a3, H⟩ := H
    have bg : 1 = aw.length := by rw [a3] <;> rfl
    refine W.opH (O.apENil E71 (.lit (.list 1 [(.list 2 (q.map E_api_Hop))])) 24 76 z.ver 1 [q] (a3.trans (List.nil_append _)) (by first | (simp; done) | (simp at bf ⊢; omega) | omega)) ?_
    exact W.adv 11 (W.tl (P := ref22_CleanRule_l0_s (wi (a + 1)) aa ab ac ad c ae af ag ai f k l p aw (.sref 76 (z.ver + 1) 1 0 1) (⟨(z.ver + 1), false, .rows 1 (aw.map E71)⟩)) (H _ _ (Opt.row (w := z.ver) (by first | rfl | omega) bg)))
   ·obtain ⟨bf, H⟩ := H
    obtain ⟨aw, a3, H⟩ := H
    have bg : (e.length + 1) = aw.length := by rw [a3, List.length_append] <;> rfl
    refine W.opK (O.apERow E71 (.lit (.list 1 [(.list 2 (q.map E_api_Hop))])) 24 76 (s + 1) 76 (s + 1) e.length 1 e [q] a3 rfl bf) ?_
    exact W.adv 11 (W.tl (P := ref22_CleanRule_l0_s (wi (a + 1)) aa ab ac ad c ae af ag ai f k l p aw (.sref 76 ((s + 1) + 1) 1 0 (e.length + 1)) (⟨((s + 1) + 1), false, .rows 1 (aw.map E71)⟩)) (H _ _ (Opt.row (w := (s + 1)) (by first | rfl | omega) bg)))
theorem ref22_CleanRule_go (H : ∃ b1, ref22_short_R bi b1 ∧ ref22_CleanRule_l0 0 bi bn bp bq b3 (⟨#[]⟩) 0 0 false b1 bn bp bq ([] : List T71) an ap aq ar au) : ref22_CleanRule_R bi bn bp bq b3 an ap aq ar au := by
 refine W.ii Tryz.func16 ?_
 refine W.adv 10 ?_
 obtain ⟨b1, cs, H⟩ := H
 refine W.cl 58 [.str bi] (.str b1) cs ?_
 exact W.adv 16 (W.tl (P := ref22_CleanRule_l0_s 0 bi bn bp bq b3 (⟨#[]⟩) 0 0 false b1 bn bp bq ([] : List T71) .nilS noBlk) (H _ _ Opt.nil))
end
section
variable (c l : Int) (g : Bool) (ac : Int) (p : ByteArray) (q u : Int) (aa : Bool) (e : List T71) (f : List T_string) (ae : D) (ab : Blk) (ap : ByteArray) (aq ar : Int) (au : Bool) (av : List T71) (z : List T_string)
noncomputable def ref24_Out_l0_s (c : Int) (p : ByteArray) (q u : Int) (aa : Bool) (e : List T71) (f : List T_string) (ae : D) (ab : Blk) (j : Nat → D) (jb : Nat → Blk) (vs : Nat → Nat) : Cf := cfAt Tryz.f17 [1, 1, 0, 1, 0] ⟨([j 0, .pref 1 1 0 0, j 2, ae, .int .i64 c] ++ J j 5 59), ([jb 0, ⟨1, false, .rows 5 [(.agg [.str p, .int .u32 q, .int .i64 u, .bool aa, (.list 1 (e.map E71))])]⟩] ++ (J jb 2 60 ++ [ab, jb 63]))⟩
def ref24_Out_l0 : Prop := ∀ ae ab, Opt E_string 62 1 ae ab f → ∀ j jb vs, W C F 17 0 (ref24_Out_l0_s c p q u aa e f ae ab j jb vs) (Ans C Tryz.f17 (.list 1 (z.map E_string)))
noncomputable def ref24_Out_l1_s (c l : Int) (p : ByteArray) (q u : Int) (aa : Bool) (e : List T71) (f : List T_string) (ae : D) (ab : Blk) (j : Nat → D) (jb : Nat → Blk) (vs : Nat → Nat) : Cf := cfAt Tryz.f17 [1, 1, 0, 1, 0, 0, 1, 0, 0, 1, 0] ⟨([j 0, .pref 1 1 0 0, j 2, ae, .int .i64 c, .int .i64 l] ++ J j 6 58), ([jb 0, ⟨1, false, .rows 5 [(.agg [.str p, .int .u32 q, .int .i64 u, .bool aa, (.list 1 (e.map E71))])]⟩] ++ (J jb 2 60 ++ [ab, jb 63]))⟩
def ref24_Out_l1 : Prop := ∀ ae ab, Opt E_string 62 1 ae ab f → ∀ j jb vs, W C F 17 0 (ref24_Out_l1_s c l p q u aa e f ae ab j jb vs) (Ans C Tryz.f17 (.list 1 (z.map E_string)))
noncomputable def ref24_Out_l2_s (c l : Int) (g : Bool) (ac : Int) (p : ByteArray) (q u : Int) (aa : Bool) (e : List T71) (f : List T_string) (ae : D) (ab : Blk) (j : Nat → D) (jb : Nat → Blk) (vs : Nat → Nat) : Cf := cfAt Tryz.f17 [1, 1, 0, 1, 0, 0, 1, 0, 0, 1, 0, 0, 1, 0, 0, 1, 0, 1, 0] ⟨([j 0, .pref 1 1 0 0, j 2, ae, .int .i64 c, .int .i64 l, .bool g, .int .i64 ac] ++ J j 8 56), ([jb 0, ⟨1, false, .rows 5 [(.agg [.str p, .int .u32 q, .int .i64 u, .bool aa, (.list 1 (e.map E71))])]⟩] ++ (J jb 2 60 ++ [ab, jb 63]))⟩
def ref24_Out_l2 : Prop := ∀ ae ab, Opt E_string 62 1 ae ab f → ∀ j jb vs, W C F 17 0 (ref24_Out_l2_s c l g ac p q u aa e f ae ab j jb vs) (Ans C Tryz.f17 (.list 1 (z.map E_string)))
variable {c l g ac p q u aa e f ae ab ap aq ar au av z}
theorem ref24_Out_l0_go (H : c < (e.length : Int) ∧ ref24_Out_l1 c 0 p q u aa e f z ∨ ¬ c < (e.length : Int) ∧ (z = f)) : ref24_Out_l0 c p q u aa e f z := by
 intro ae ab ai j jb vs
 refine W.adv 1 (W.adv 6 ?_)
 refine W.opS (O.ln e E71) ?_
 refine W.adv 3 ?_
 rcases H with ⟨aw, H⟩ | ⟨aw, H⟩
 ·refine W.ct (c < (e.length : Int)) aw ?_
  exact W.adv 10 (W.tl (H _ _ ai))
 ·refine W.cf (c < (e.length : Int)) aw ?_
  refine W.adv 12 ?_
  rcases ai with ⟨rfl, ay⟩ | ⟨ad, rfl, rfl⟩
  ·subst ay
   exact W.fr (Ans.q (.list 1 (([] : List T_string).map E_string)) (by rw [H]))
  ·exact W.fr (Ans.of (d := (.sref 62 (ad + 1) 1 0 f.length)) (d' := (.list 1 (f.map E_string))) (e' := (.list 1 (f.map E_string))) (by kernel_rfl) ((congrArg (fun h => reify h DEPTH (.sref 62 (ad + 1) 1 0 f.length)) (tidy_ver (b := 62) (v := ad) (fz := false) (y := .rows 1 (f.map E_string)) (by kernel_rfl))).trans (rf_fullE (enc := E_string) E_string_t (b := 62) (v := (ad + 1)) (w := (ad + 1)) (fz := false) (xs := f) (by kernel_rfl) rfl rfl)) (by kernel_rfl) (by rw [H]))
theorem ref24_Out_l1_go (H : 0 ≤ c ∧ c < (e.length : Int) ∧ (l < ((e.getD (c).toNat []).length : Int) ∧ ref24_Out_l2 c l false 0 p q u aa e f z ∨ ¬ l < ((e.getD (c).toNat []).length : Int) ∧ ref24_Out_l0 (wi (c + 1)) p q u aa e f z)) : ref24_Out_l1 c l p q u aa e f z := by
 intro ae ab ai j jb vs
 refine W.adv 1 (W.adv 7 ?_)
 obtain ⟨bb, bc, H⟩ := H
 refine W.opS (O.ixE E71 1 .i64 e c [] (e.getD (c).toNat []) bb bc rfl) ?_
 refine W.adv 1 (W.opS (O.ln (e.getD (c).toNat []) E_api_Hop) ?_)
 refine W.adv 3 ?_
 rcases H with ⟨az, H⟩ | ⟨az, H⟩
 ·refine W.ct (l < ((e.getD (c).toNat []).length : Int)) az ?_
  exact W.adv 16 (W.tl (H _ _ ai))
 ·refine W.cf (l < ((e.getD (c).toNat []).length : Int)) az ?_
  exact W.adv 12 (W.tl (H _ _ ai))
theorem ref24_Out_l2_go (H : ac < (f.length : Int) ∧ (g = true ∧ ref24_Out_l2 c l true (wi (ac + 1)) p q u aa e f z ∨ ¬ g = true ∧ 0 ≤ ac ∧ 0 ≤ c ∧ c < (e.length : Int) ∧ 0 ≤ l ∧ l < ((e.getD (c).toNat []).length : Int) ∧ ∃ af am, (e.getD (c).toNat []).getD (l).toNat (ByteArray.empty, 0) = (af, am) ∧ ref24_Out_l2 c l (decide ((f.getD (ac).toNat ByteArray.empty) = af)) (wi (ac + 1)) p q u aa e f z) ∨ ¬ ac < (f.length : Int) ∧ (g = true ∧ ref24_Out_l1 c (wi (l + 1)) p q u aa e f z ∨ ¬ g = true ∧ 0 ≤ c ∧ c < (e.length : Int) ∧ 0 ≤ l ∧ l < ((e.getD (c).toNat []).length : Int) ∧ ∃ ak a0, (e.getD (c).toNat []).getD (l).toNat (ByteArray.empty, 0) = (ak, a0) ∧ (f.length + 1 + 192) * (16 + 1) ≤ 70368744177664 ∧ ∃ al, al = f ++ [ak] ∧ ref24_Out_l1 c (wi (l + 1)) p q u aa e al z)) : ref24_Out_l2 c l g ac p q u aa e f z := by
 intro ae ab ai j jb vs
 refine W.adv 1 (W.adv 5 ?_)
 rcases ai with ⟨rfl, ay⟩ | ⟨ad, rfl, rfl⟩
 ·subst ay
  refine W.adv 4 ?_
  rcases H with ⟨ag, H⟩ | ⟨ag, H⟩
  ·refine W.ct (ac < 0) ag ?_
   refine W.adv 7 ?_
   rcases H with ⟨k, H⟩ | ⟨k, H⟩
   ·refine W.gb false (g == false) (congrArg (fun b => b == false) k) ?_
    refine W.gb false (g == false) (congrArg (fun b => b == false) k) ?_
    refine W.gb false (g == false) (congrArg (fun b => b == false) k) ?_
    refine W.gb false (g == false) (congrArg (fun b => b == false) k) ?_
    refine W.gb false (g == false) (congrArg (fun b => b == false) k) ?_
    refine W.gb false (g == false) (congrArg (fun b => b == false) k) ?_
    refine W.gb false (g == false) (congrArg (fun b => b == false) k) ?_
    refine W.gb false (g == false) (congrArg (fun b => b == false) k) ?_
    refine W.gb false (g == false) (congrArg (fun b => b == false) k) ?_
    refine W.gb false (g == false) (congrArg (fun b => b == false) k) ?_
    refine W.gb false (g == false) (congrArg (fun b => b == false) k) ?_
    refine W.gb false (g == false) (congrArg (fun b => b == false) k) ?_
    refine W.gb false (g == false) (congrArg (fun b => b == false) k) ?_
    refine W.gb false (g == false) (congrArg (fun b => b == false) k) ?_
    refine W.opS (O.pk g true (.bool true) (.tuple []) k) ?_
    exact W.adv 10 (W.tl (P := ref24_Out_l2_s c l true (wi (ac + 1)) p q u aa e ([] : List T_string) .nilS ab) (H _ _ Opt.nil))
   ·exact absurd (Int.lt_of_le_of_lt H.1 ag) (by decide)
  ·refine W.cf (ac < 0) ag ?_
   refine W.adv 11 ?_
   rcases H with ⟨an, H⟩ | ⟨an, H⟩
   ·refine W.cb false (!g) (congrArg (fun b => !b) an) ?_
    exact W.adv 9 (W.tl (P := ref24_Out_l1_s c (wi (l + 1)) p q u aa e ([] : List T_string) .nilS ab) (H _ _ Opt.nil))
   ·refine W.cb true (!g) (congrArg (fun b => !b) (bfalse an)) ?_
    refine W.adv 5 ?_
    obtain ⟨a1, a2, H⟩ := H
    refine W.opS (O.ixE E71 1 .i64 e c [] (e.getD (c).toNat []) a1 a2 rfl) ?_
    refine W.adv 2 ?_
    obtain ⟨a3, a4, H⟩ := H
    obtain ⟨af, am, a5, H⟩ := H
    refine W.opS (O.ixE E_api_Hop 2 .i64 (e.getD (c).toNat []) l (ByteArray.empty, 0) (af, am) a3 a4 a5) ?_
    refine W.adv 3 ?_
    obtain ⟨a6, H⟩ := H
    obtain ⟨a7, a9, H⟩ := H
    have bd : 1 = a7.length := by rw [a9] <;> rfl
    refine W.opH (O.apENil E_string (.lit (.list 1 [.str af])) 16 62 ab.ver 1 [af] (a9.trans (List.nil_append _)) (by first | (simp; done) | (simp at a6 ⊢; omega) | omega)) ?_
    exact W.adv 10 (W.tl (P := ref24_Out_l1_s c (wi (l + 1)) p q u aa e a7 (.sref 62 (ab.ver + 1) 1 0 1) (⟨(ab.ver + 1), false, .rows 1 (a7.map E_string)⟩)) (H _ _ (Opt.row (w := ab.ver) (by first | rfl | omega) bd)))
 ·refine W.opS (OpIs.ln (n := f.length) (m := f.length) (by kernel_rfl) rfl) ?_
  refine W.adv 3 ?_
  rcases H with ⟨ag, H⟩ | ⟨ag, H⟩
  ·refine W.ct (ac < (f.length : Int)) ag ?_
   refine W.adv 7 ?_
   rcases H with ⟨k, H⟩ | ⟨k, H⟩
   ·refine W.gb false (g == false) (congrArg (fun b => b == false) k) ?_
    refine W.gb false (g == false) (congrArg (fun b => b == false) k) ?_
    refine W.gb false (g == false) (congrArg (fun b => b == false) k) ?_
    refine W.gb false (g == false) (congrArg (fun b => b == false) k) ?_
    refine W.gb false (g == false) (congrArg (fun b => b == false) k) ?_
    refine W.gb false (g == false) (congrArg (fun b => b == false) k) ?_
    refine W.gb false (g == false) (congrArg (fun b => b == false) k) ?_
    refine W.gb false (g == false) (congrArg (fun b => b == false) k) ?_
    refine W.gb false (g == false) (congrArg (fun b => b == false) k) ?_
    refine W.gb false (g == false) (congrArg (fun b => b == false) k) ?_
    refine W.gb false (g == false) (congrArg (fun b => b == false) k) ?_
    refine W.gb false (g == false) (congrArg (fun b => b == false) k) ?_
    refine W.gb false (g == false) (congrArg (fun b => b == false) k) ?_
    refine W.gb false (g == false) (congrArg (fun b => b == false) k) ?_
    refine W.opS (O.pk g true (.bool true) (.tuple []) k) ?_
    exact W.adv 10 (W.tl (P := ref24_Out_l2_s c l true (wi (ac + 1)) p q u aa e f (.sref 62 (ad + 1) 1 0 f.length) (⟨(ad + 1), false, .rows 1 (f.map E_string)⟩)) (H _ _ (Opt.row (w := ad) (by first | rfl | omega) rfl)))
   ·refine W.gb true (g == false) (congrArg (fun b => b == false) (bfalse k)) ?_
    refine W.adv 1 (W.gb true (g == false) (congrArg (fun b => b == false) (bfalse k)) ?_)
    refine W.adv 1 (W.gb true (g == false) (congrArg (fun b => b == false) (bfalse k)) ?_)
    obtain ⟨an, H⟩ := H
    refine W.opS (O.ixR .i64 62 (ad + 1) 1 f.length ac an ag) ?_
    refine W.gb true (g == false) (congrArg (fun b => b == false) (bfalse k)) ?_
    refine W.opS (OpIs.ldE (enc := E_string) (b := 62) (v := (ad + 1)) (i := (ac).toNat) (off := 0) (w := (ad + 1)) (n := 1) (s := 1) (fz := false) (a := false) (L := f) (d0 := ByteArray.empty) (x := (f.getD (ac).toNat ByteArray.empty)) (r := (.str (f.getD (ac).toNat ByteArray.empty))) (by kernel_rfl) rfl (by omega) rfl (by kernel_rfl)) ?_
    refine W.gb true (g == false) (congrArg (fun b => b == false) (bfalse k)) ?_
    refine W.adv 1 (W.gb true (g == false) (congrArg (fun b => b == false) (bfalse k)) ?_)
    refine W.adv 1 (W.gb true (g == false) (congrArg (fun b => b == false) (bfalse k)) ?_)
    refine W.adv 1 (W.gb true (g == false) (congrArg (fun b => b == false) (bfalse k)) ?_)
    obtain ⟨a1, a2, H⟩ := H
    refine W.opS (O.ixE E71 1 .i64 e c [] (e.getD (c).toNat []) a1 a2 rfl) ?_
    refine W.gb true (g == false) (congrArg (fun b => b == false) (bfalse k)) ?_
    refine W.adv 1 (W.gb true (g == false) (congrArg (fun b => b == false) (bfalse k)) ?_)
    refine W.adv 1 (W.gb true (g == false) (congrArg (fun b => b == false) (bfalse k)) ?_)
    obtain ⟨a3, a4, H⟩ := H
    obtain ⟨af, am, a5, H⟩ := H
    refine W.opS (O.ixE E_api_Hop 2 .i64 (e.getD (c).toNat []) l (ByteArray.empty, 0) (af, am) a3 a4 a5) ?_
    refine W.gb true (g == false) (congrArg (fun b => b == false) (bfalse k)) ?_
    refine W.adv 1 (W.gb true (g == false) (congrArg (fun b => b == false) (bfalse k)) ?_)
    refine W.adv 1 (W.gb true (g == false) (congrArg (fun b => b == false) (bfalse k)) ?_)
    refine W.adv 1 (W.opS (O.pk g false (.bool true) (.bool (decide ((f.getD (ac).toNat ByteArray.empty) = af))) (bfalse k)) ?_)
    exact W.adv 10 (W.tl (P := ref24_Out_l2_s c l (decide ((f.getD (ac).toNat ByteArray.empty) = af)) (wi (ac + 1)) p q u aa e f (.sref 62 (ad + 1) 1 0 f.length) (⟨(ad + 1), false, .rows 1 (f.map E_string)⟩)) (H _ _ (Opt.row (w := ad) (by first | rfl | omega) rfl)))
  ·refine W.cf (ac < (f.length : Int)) ag ?_
   refine W.adv 11 ?_
   rcases H with ⟨a8, H⟩ | ⟨a8, H⟩
   ·refine W.cb false (!g) (congrArg (fun b => !b) a8) ?_
    exact W.adv 9 (W.tl (P := ref24_Out_l1_s c (wi (l + 1)) p q u aa e f (.sref 62 (ad + 1) 1 0 f.length) (⟨(ad + 1), false, .rows 1 (f.map E_string)⟩)) (H _ _ (Opt.row (w := ad) (by first | rfl | omega) rfl)))
   ·refine W.cb true (!g) (congrArg (fun b => !b) (bfalse a8)) ?_
    refine W.adv 5 ?_
    obtain ⟨be, bf, H⟩ := H
    refine W.opS (O.ixE E71 1 .i64 e c [] (e.getD (c).toNat []) be bf rfl) ?_
    refine W.adv 2 ?_
    obtain ⟨a6, bg, H⟩ := H
    obtain ⟨ak, a0, bi, H⟩ := H
    refine W.opS (O.ixE E_api_Hop 2 .i64 (e.getD (c).toNat []) l (ByteArray.empty, 0) (ak, a0) a6 bg bi) ?_
    refine W.adv 3 ?_
    obtain ⟨bk, H⟩ := H
    obtain ⟨al, ba, H⟩ := H
    have bl : (f.length + 1) = al.length := by rw [ba, List.length_append] <;> rfl
    refine W.opK (O.apERow E_string (.lit (.list 1 [.str ak])) 16 62 (ad + 1) 62 (ad + 1) f.length 1 f [ak] ba rfl bk) ?_
    exact W.adv 10 (W.tl (P := ref24_Out_l1_s c (wi (l + 1)) p q u aa e al (.sref 62 ((ad + 1) + 1) 1 0 (f.length + 1)) (⟨((ad + 1) + 1), false, .rows 1 (al.map E_string)⟩)) (H _ _ (Opt.row (w := (ad + 1)) (by first | rfl | omega) bl)))
theorem ref24_Out_go (H : ref24_Out_l0 0 ap aq ar au av ([] : List T_string) z) : ref24_Out_R ap aq ar au av z := by
 refine W.ii Tryz.func17 ?_
 exact W.adv 19 (W.tl (P := ref24_Out_l0_s 0 ap aq ar au av ([] : List T_string) .nilS noBlk) (H _ _ Opt.nil))
end
section
variable (u : List T_api_Net) (q a2 a4 a5 : Int) (al : ByteArray) (ad : List T_api_Node) (ae : List T_api_Link) (af : List T_api_Rule) (c : ByteArray) (k : List T_api_Node) (p : List T_api_Link) (aa : List T_api_Rule) (e : List T_api_Net) (ak : D) (av : Blk) (a3 : D) (a6 : Blk) (bi : D) (bk : Blk) (ar : D) (l : Blk) (cv z : List T_api_Net)
noncomputable def ref22_Clean_l0_s (u : List T_api_Net) (q : Int) (e : List T_api_Net) (ar : D) (l : Blk) (j : Nat → D) (jb : Nat → Blk) (vs : Nat → Nat) : Cf := cfAt Tryz.f34 [1, 1, 0, 1, 0] ⟨([(.list 4 (u.map E_api_Net)), j 1, j 2, ar, .int .i64 q] ++ J j 5 127), (J jb 0 130 ++ [l, jb 131])⟩
def ref22_Clean_l0 : Prop := ∀ ar l, Opt E_api_Net 130 4 ar l e → ∀ j jb vs, W C F 34 0 (ref22_Clean_l0_s u q e ar l j jb vs) (Ans C Tryz.f34 (.list 4 (z.map E_api_Net)))
noncomputable def ref22_Clean_l1_s (u : List T_api_Net) (q a2 : Int) (al : ByteArray) (ad : List T_api_Node) (ae : List T_api_Link) (af : List T_api_Rule) (c : ByteArray) (k : List T_api_Node) (e : List T_api_Net) (ak : D) (av : Blk) (ar : D) (l : Blk) (j : Nat → D) (jb : Nat → Blk) (vs : Nat → Nat) : Cf := cfAt Tryz.f34 [1, 1, 0, 1, 0, 0, 1, 0, 0, 1, 1, 0, 1, 0] ⟨([(.list 4 (u.map E_api_Net)), j 1, j 2, ar, .int .i64 q, (.pref 5 ((vs 5) + 1) 0 0), (.pref 6 ((vs 6) + 1) 0 0), .int .i64 a2] ++ J j 8 124), (J jb 0 5 ++ ([⟨((vs 5) + 1), false, .rows 4 [(.agg [.str al, (.list 2 (ad.map E_api_Node)), (.list 6 (ae.map E_api_Link)), (.list 5 (af.map E_api_Rule))])]⟩, ⟨((vs 6) + 1), false, .rows 4 [(.agg [.str c, ak, .nilS, .nilS])]⟩] ++ (J jb 7 62 ++ ([av] ++ (J jb 70 60 ++ [l, jb 131])))))⟩
def ref22_Clean_l1 : Prop := ∀ ak av, Opt E_api_Node 69 2 ak av k → ∀ ar l, Opt E_api_Net 130 4 ar l e → ∀ j jb vs, W C F 34 0 (ref22_Clean_l1_s u q a2 al ad ae af c k e ak av ar l j jb vs) (Ans C Tryz.f34 (.list 4 (z.map E_api_Net)))
noncomputable def ref22_Clean_l2_s (u : List T_api_Net) (q a4 : Int) (al : ByteArray) (ad : List T_api_Node) (ae : List T_api_Link) (af : List T_api_Rule) (c : ByteArray) (k : List T_api_Node) (p : List T_api_Link) (e : List T_api_Net) (ak : D) (av : Blk) (a3 : D) (a6 : Blk) (ar : D) (l : Blk) (j : Nat → D) (jb : Nat → Blk) (vs : Nat → Nat) : Cf := cfAt Tryz.f34 [1, 1, 0, 1, 0, 0, 1, 0, 0, 1, 1, 1, 0, 1, 0] ⟨([(.list 4 (u.map E_api_Net)), j 1, j 2, ar, .int .i64 q, (.pref 5 ((vs 5) + 1) 0 0), (.pref 6 ((vs 6) + 1) 0 0), j 7, .int .i64 a4] ++ J j 9 123), (J jb 0 5 ++ ([⟨((vs 5) + 1), false, .rows 4 [(.agg [.str al, (.list 2 (ad.map E_api_Node)), (.list 6 (ae.map E_api_Link)), (.list 5 (af.map E_api_Rule))])]⟩, ⟨((vs 6) + 1), false, .rows 4 [(.agg [.str c, ak, a3, .nilS])]⟩] ++ (J jb 7 62 ++ ([av] ++ (J jb 70 33 ++ ([a6] ++ (J jb 104 26 ++ [l, jb 131])))))))⟩
def ref22_Clean_l2 : Prop := ∀ ak av, Opt E_api_Node 69 2 ak av k → ∀ a3 a6, Opt E_api_Link 103 6 a3 a6 p → ∀ ar l, Opt E_api_Net 130 4 ar l e → ∀ j jb vs, W C F 34 0 (ref22_Clean_l2_s u q a4 al ad ae af c k p e ak av a3 a6 ar l j jb vs) (Ans C Tryz.f34 (.list 4 (z.map E_api_Net)))
noncomputable def ref22_Clean_l3_s (u : List T_api_Net) (q a5 : Int) (al : ByteArray) (ad : List T_api_Node) (ae : List T_api_Link) (af : List T_api_Rule) (c : ByteArray) (k : List T_api_Node) (p : List T_api_Link) (aa : List T_api_Rule) (e : List T_api_Net) (ak : D) (av : Blk) (a3 : D) (a6 : Blk) (bi : D) (bk : Blk) (ar : D) (l : Blk) (j : Nat → D) (jb : Nat → Blk) (vs : Nat → Nat) : Cf := cfAt Tryz.f34 [1, 1, 0, 1, 0, 0, 1, 0, 0, 1, 1, 1, 1, 0, 1, 0] ⟨([(.list 4 (u.map E_api_Net)), j 1, j 2, ar, .int .i64 q, (.pref 5 ((vs 5) + 1) 0 0), (.pref 6 ((vs 6) + 1) 0 0), j 7, j 8, j 9, .int .i64 a5] ++ J j 11 121), (J jb 0 5 ++ ([⟨((vs 5) + 1), false, .rows 4 [(.agg [.str al, (.list 2 (ad.map E_api_Node)), (.list 6 (ae.map E_api_Link)), (.list 5 (af.map E_api_Rule))])]⟩, ⟨((vs 6) + 1), false, .rows 4 [(.agg [.str c, ak, a3, bi])]⟩] ++ (J jb 7 62 ++ ([av] ++ (J jb 70 33 ++ ([a6] ++ (J jb 104 21 ++ ([bk] ++ (J jb 126 4 ++ [l, jb 131])))))))))⟩
def ref22_Clean_l3 : Prop := ∀ ak av, Opt E_api_Node 69 2 ak av k → ∀ a3 a6, Opt E_api_Link 103 6 a3 a6 p → ∀ bi bk, Opt E_api_Rule 125 5 bi bk aa → ∀ ar l, Opt E_api_Net 130 4 ar l e → ∀ j jb vs, W C F 34 0 (ref22_Clean_l3_s u q a5 al ad ae af c k p aa e ak av a3 a6 bi bk ar l j jb vs) (Ans C Tryz.f34 (.list 4 (z.map E_api_Net)))
variable {u q a2 a4 a5 al ad ae af c k p aa e ak av a3 a6 bi bk ar l cv z}
theorem ref22_Clean_l0_go (H : q < (u.length : Int) ∧ ((q < 3 ∧ 0 ≤ q ∧ ∃ bg bz b0 b1, u.getD (q).toNat (ByteArray.empty, [], [], []) = (bg, bz, b0, b1) ∧ ∃ ci, ref22_short_R bg ci ∧ ref22_Clean_l1 u q 0 bg bz b0 b1 ci ([] : List T_api_Node) e z) ∨ ¬ q < 3 ∧ (z = e)) ∨ ¬ q < (u.length : Int) ∧ (z = e)) : ref22_Clean_l0 u q e z := by
 intro ar l au j jb vs
 refine W.adv 1 (W.adv 5 ?_)
 refine W.opS (O.ln u E_api_Net) ?_
 refine W.adv 2 ?_
 rcases H with ⟨b2, H⟩ | ⟨b2, H⟩
 ·refine W.gt (q < (u.length : Int)) b2 ?_
  refine W.adv 1 (W.gt (q < (u.length : Int)) b2 ?_)
  refine W.adv 1 (W.opS (O.pk (decide (q < (u.length : Int))) true (.bool (decide (q < 3))) (.bool false) (decide_eq_true b2)) ?_)
  refine W.adv 2 ?_
  rcases H with ⟨cw, H⟩ | ⟨cw, H⟩
  ·refine W.ct (q < 3) cw ?_
   refine W.adv 8 ?_
   obtain ⟨dd, H⟩ := H
   obtain ⟨bg, bz, b0, b1, de, H⟩ := H
   refine W.opS (O.ixE E_api_Net 4 .i64 u q (ByteArray.empty, [], [], []) (bg, bz, b0, b1) dd b2 de) ?_
   refine W.adv 2 (W.opH (O.stV 5 ((jb 5).ver + 1) 0 0 4 4 [(.agg [.str ⟨#[]⟩, .nilS, .nilS, .nilS])] [(.agg [.str bg, (.list 2 (bz.map E_api_Node)), (.list 6 (b0.map E_api_Link)), (.list 5 (b1.map E_api_Rule))])] (.agg [.str ⟨#[]⟩, .nilS, .nilS, .nilS]) (.agg [.str bg, (.list 2 (bz.map E_api_Node)), (.list 6 (b0.map E_api_Link)), (.list 5 (b1.map E_api_Rule))])) ?_)
   refine W.adv 5 (W.opS (O.ldV 5 ((jb 5).ver + 1) 0 0 4 1 false false [(.agg [.str bg, (.list 2 (bz.map E_api_Node)), (.list 6 (b0.map E_api_Link)), (.list 5 (b1.map E_api_Rule))])] (.str bg)) ?_)
   obtain ⟨ci, df, H⟩ := H
   refine W.cl 58 [.str bg] (.str ci) df ?_
   refine W.adv 2 (W.opH (O.stV 6 ((jb 6).ver + 1) 0 0 4 4 [(.agg [.str ⟨#[]⟩, .nilS, .nilS, .nilS])] [(.agg [.str ci, .nilS, .nilS, .nilS])] (.agg [.str ⟨#[]⟩, .nilS, .nilS, .nilS]) (.agg [.str ci, .nilS, .nilS, .nilS])) ?_)
   exact W.adv 9 (W.tl (P := ref22_Clean_l1_s u q 0 bg bz b0 b1 ci ([] : List T_api_Node) e .nilS (jb 69) ar l) (H _ _ Opt.nil _ _ au))
  ·refine W.cf (q < 3) cw ?_
   refine W.adv 12 ?_
   rcases au with ⟨rfl, aq⟩ | ⟨f, rfl, rfl⟩
   ·subst aq
    exact W.fr (Ans.q (.list 4 (([] : List T_api_Net).map E_api_Net)) (by rw [H]))
   ·exact W.fr (Ans.of (d := (.sref 130 (f + 1) 4 0 e.length)) (d' := (.list 4 (e.map E_api_Net))) (e' := (.list 4 (e.map E_api_Net))) (by kernel_rfl) ((congrArg (fun h => reify h DEPTH (.sref 130 (f + 1) 4 0 e.length)) (tidy_ver (b := 130) (v := f) (fz := false) (y := .rows 4 (e.map E_api_Net)) (by kernel_rfl))).trans (rf_fullE (enc := E_api_Net) E_api_Net_t (b := 130) (v := (f + 1)) (w := (f + 1)) (fz := false) (xs := e) (by kernel_rfl) rfl rfl)) (by kernel_rfl) (by rw [H]))
 ·refine W.gf (q < (u.length : Int)) b2 ?_
  refine W.gf (q < (u.length : Int)) b2 ?_
  refine W.opS (O.pk (decide (q < (u.length : Int))) false (.tuple []) (.bool false) (decide_eq_false b2)) ?_
  refine W.adv 15 ?_
  rcases au with ⟨rfl, aq⟩ | ⟨f, rfl, rfl⟩
  ·subst aq
   exact W.fr (Ans.q (.list 4 (([] : List T_api_Net).map E_api_Net)) (by rw [H]))
  ·exact W.fr (Ans.of (d := (.sref 130 (f + 1) 4 0 e.length)) (d' := (.list 4 (e.map E_api_Net))) (e' := (.list 4 (e.map E_api_Net))) (by kernel_rfl) ((congrArg (fun h => reify h DEPTH (.sref 130 (f + 1) 4 0 e.length)) (tidy_ver (b := 130) (v := f) (fz := false) (y := .rows 4 (e.map E_api_Net)) (by kernel_rfl))).trans (rf_fullE (enc := E_api_Net) E_api_Net_t (b := 130) (v := (f + 1)) (w := (f + 1)) (fz := false) (xs := e) (by kernel_rfl) rfl rfl)) (by kernel_rfl) (by rw [H]))
theorem ref22_Clean_l1_go (H : a2 < (ad.length : Int) ∧ ((a2 < 5 ∧ 0 ≤ a2 ∧ ∃ ck cy, ad.getD (a2).toNat (ByteArray.empty, []) = (ck, cy) ∧ ∃ bl, ref22_short_R ck bl ∧ ∃ cz bm, ad.getD (a2).toNat (ByteArray.empty, []) = (cz, bm) ∧ ∃ c0 a8, ad.getD (a2).toNat (ByteArray.empty, []) = (c0, a8) ∧ 0 ≤ (mn (a8.length : Int) 3) ∧ (mn (a8.length : Int) 3) ≤ (bm.length : Int) ∧ ((bm.take (mn (a8.length : Int) 3).toNat).length + 192) * (16 + 1) ≤ 70368744177664 ∧ ∃ bn, bn = (bm.take (mn (a8.length : Int) 3).toNat) ∧ (k.length + 1 + 192) * (40 + 1) ≤ 70368744177664 ∧ ∃ bp, bp = k ++ [(bl, bn)] ∧ ref22_Clean_l1 u q (wi (a2 + 1)) al ad ae af c bp e z) ∨ ¬ a2 < 5 ∧ ref22_Clean_l2 u q 0 al ad ae af c k ([] : List T_api_Link) e z) ∨ ¬ a2 < (ad.length : Int) ∧ ref22_Clean_l2 u q 0 al ad ae af c k ([] : List T_api_Link) e z) : ref22_Clean_l1 u q a2 al ad ae af c k e z := by
 intro ak av a9 ar l au j jb vs
 refine W.adv 1 (W.adv 5 ?_)
 refine W.opS (O.ldV 5 ((vs 5) + 1) 0 1 4 1 false false [(.agg [.str al, (.list 2 (ad.map E_api_Node)), (.list 6 (ae.map E_api_Link)), (.list 5 (af.map E_api_Rule))])] (.list 2 (ad.map E_api_Node))) ?_
 refine W.opS (O.ln ad E_api_Node) ?_
 refine W.adv 2 ?_
 rcases H with ⟨bq, H⟩ | ⟨bq, H⟩
 ·refine W.gt (a2 < (ad.length : Int)) bq ?_
  refine W.adv 1 (W.gt (a2 < (ad.length : Int)) bq ?_)
  refine W.adv 1 (W.opS (O.pk (decide (a2 < (ad.length : Int))) true (.bool (decide (a2 < 5))) (.bool false) (decide_eq_true bq)) ?_)
  refine W.adv 2 ?_
  rcases H with ⟨c1, H⟩ | ⟨c1, H⟩
  ·refine W.ct (a2 < 5) c1 ?_
   refine W.adv 6 (W.opS (O.ldV 6 ((vs 6) + 1) 0 1 4 1 false false [(.agg [.str c, ak, .nilS, .nilS])] ak) ?_)
   refine W.adv 1 (W.opS (O.ldV 5 ((vs 5) + 1) 0 1 4 1 false false [(.agg [.str al, (.list 2 (ad.map E_api_Node)), (.list 6 (ae.map E_api_Link)), (.list 5 (af.map E_api_Rule))])] (.list 2 (ad.map E_api_Node))) ?_)
   refine W.adv 1 ?_
   obtain ⟨c2, H⟩ := H
   obtain ⟨ck, cy, dg, H⟩ := H
   refine W.opS (O.ixE E_api_Node 2 .i64 ad a2 (ByteArray.empty, []) (ck, cy) c2 bq dg) ?_
   refine W.adv 2 ?_
   obtain ⟨bl, di, H⟩ := H
   refine W.cl 58 [.str ck] (.str bl) di ?_
   refine W.adv 2 (W.opS (O.ldV 5 ((vs 5) + 1) 0 1 4 1 false false [(.agg [.str al, (.list 2 (ad.map E_api_Node)), (.list 6 (ae.map E_api_Link)), (.list 5 (af.map E_api_Rule))])] (.list 2 (ad.map E_api_Node))) ?_)
   refine W.adv 1 ?_
   obtain ⟨cz, bm, dk, H⟩ := H
   refine W.opS (O.ixE E_api_Node 2 .i64 ad a2 (ByteArray.empty, []) (cz, bm) c2 bq dk) ?_
   refine W.adv 3 (W.opS (O.ldV 5 ((vs 5) + 1) 0 1 4 1 false false [(.agg [.str al, (.list 2 (ad.map E_api_Node)), (.list 6 (ae.map E_api_Link)), (.list 5 (af.map E_api_Rule))])] (.list 2 (ad.map E_api_Node))) ?_)
   refine W.adv 1 ?_
   obtain ⟨c0, a8, dl, H⟩ := H
   refine W.opS (O.ixE E_api_Node 2 .i64 ad a2 (ByteArray.empty, []) (c0, a8) c2 bq dl) ?_
   refine W.adv 2 (W.opS (O.ln a8 E_api_Prefix) ?_)
   refine W.adv 1 ?_
   obtain ⟨dm, dn, H⟩ := H
   refine W.opS (OpIs.slE_hi (enc := E_api_Prefix) (n := 2) (k' := .i64) (L := bm) (i := (mn (a8.length : Int) 3)) (by kernel_rfl) dm dn) ?_
   obtain ⟨dp, H⟩ := H
   obtain ⟨bn, dc, H⟩ := H
   have dq : (bm.take (mn (a8.length : Int) 3).toNat).length = bn.length := by rw [dc] <;> rfl
   refine W.opH (O.apENil E_api_Prefix (.list 2 ((bm.take (mn (a8.length : Int) 3).toNat).map E_api_Prefix)) 16 66 ((jb 66).ver) 2 (bm.take (mn (a8.length : Int) 3).toNat) dc dp) ?_
   refine W.adv 1 (W.opF (OpIs.bs (t := 23) (len := 1) (is := [0]) (vs := [(.agg [.str bl, (.sref 66 ((jb 66).ver + 1) 2 0 (bm.take (mn (a8.length : Int) 3).toNat).length)])]) (es := [(.agg [.str bl, (.list 2 (bn.map E_api_Prefix))])]) (d := (.lit (.list 2 [(.agg [.str bl, (.list 2 (bn.map E_api_Prefix))])]))) (by kernel_rfl) (rf_cons (rf_agg (rf_cons (by kernel_rfl) (rf_cons (rf_fullE (enc := E_api_Prefix) E_api_Prefix_t (b := 66) (v := ((jb 66).ver + 1)) (w := ((jb 66).ver + 1)) (fz := false) (xs := bn) (by kernel_rfl) rfl dq) rf_nil))) rf_nil) (by kernel_rfl) rfl) ?_)
   rcases a9 with ⟨rfl, cr⟩ | ⟨ap, rfl, rfl⟩
   ·subst cr
    obtain ⟨c3, H⟩ := H
    obtain ⟨bp, cs, H⟩ := H
    have c4 : 1 = bp.length := by rw [cs] <;> rfl
    refine W.opH (O.apENil E_api_Node (.lit (.list 2 [(.agg [.str bl, (.list 2 (bn.map E_api_Prefix))])])) 40 69 av.ver 2 [(bl, bn)] (cs.trans (List.nil_append _)) (by first | (simp; done) | (simp at c3 ⊢; omega) | omega)) ?_
    refine W.adv 1 (W.opH (O.stV 6 ((vs 6) + 1) 0 1 4 1 [(.agg [.str c, .nilS, .nilS, .nilS])] [(.agg [.str c, (.sref 69 (av.ver + 1) 2 0 1), .nilS, .nilS])] (.agg [.str c, .nilS, .nilS, .nilS]) (.sref 69 (av.ver + 1) 2 0 1)) ?_)
    exact W.adv 9 (W.tl (P := ref22_Clean_l1_s u q (wi (a2 + 1)) al ad ae af c bp e (.sref 69 (av.ver + 1) 2 0 1) (⟨(av.ver + 1), false, .rows 2 (bp.map E_api_Node)⟩) ar l) (H _ _ (Opt.row (w := av.ver) (by first | rfl | omega) c4) _ _ au))
   ·obtain ⟨c3, H⟩ := H
    obtain ⟨bp, cs, H⟩ := H
    have c4 : (k.length + 1) = bp.length := by rw [cs, List.length_append] <;> rfl
    refine W.opK (O.apERow E_api_Node (.lit (.list 2 [(.agg [.str bl, (.list 2 (bn.map E_api_Prefix))])])) 40 69 (ap + 1) 69 (ap + 1) k.length 2 k [(bl, bn)] cs rfl c3) ?_
    refine W.adv 1 (W.opH (O.stV 6 ((vs 6) + 1) 0 1 4 1 [(.agg [.str c, (.sref 69 (ap + 1) 2 0 k.length), .nilS, .nilS])] [(.agg [.str c, (.sref 69 ((ap + 1) + 1) 2 0 (k.length + 1)), .nilS, .nilS])] (.agg [.str c, (.sref 69 (ap + 1) 2 0 k.length), .nilS, .nilS]) (.sref 69 ((ap + 1) + 1) 2 0 (k.length + 1))) ?_)
    exact W.adv 9 (W.tl (P := ref22_Clean_l1_s u q (wi (a2 + 1)) al ad ae af c bp e (.sref 69 ((ap + 1) + 1) 2 0 (k.length + 1)) (⟨((ap + 1) + 1), false, .rows 2 (bp.map E_api_Node)⟩) ar l) (H _ _ (Opt.row (w := (ap + 1)) (by first | rfl | omega) c4) _ _ au))
  ·refine W.cf (a2 < 5) c1 ?_
   exact W.adv 12 (W.tl (P := ref22_Clean_l2_s u q 0 al ad ae af c k ([] : List T_api_Link) e ak av .nilS (jb 103) ar l) (H _ _ a9 _ _ Opt.nil _ _ au))
 ·refine W.gf (a2 < (ad.length : Int)) bq ?_
  refine W.gf (a2 < (ad.length : Int)) bq ?_
  refine W.opS (O.pk (decide (a2 < (ad.length : Int))) false (.tuple []) (.bool false) (decide_eq_false bq)) ?_
  exact W.adv 15 (W.tl (P := ref22_Clean_l2_s u q 0 al ad ae af c k ([] : List T_api_Link) e ak av .nilS (jb 103) ar l) (H _ _ a9 _ _ Opt.nil _ _ au))
theorem ref22_Clean_l2_go (H : a4 < (ae.length : Int) ∧ ((a4 < 8 ∧ 0 ≤ a4 ∧ ∃ ba bb bc bd be bf, ae.getD (a4).toNat (ByteArray.empty, ByteArray.empty, ByteArray.empty, false, [], []) = (ba, bb, bc, bd, be, bf) ∧ ∃ b3, ref22_short_R ba b3 ∧ ∃ b4, ref22_short_R bb b4 ∧ ∃ b5, ref22_short_R bc b5 ∧ ∃ b6 b7 b8, ref08_Clean_R bd be bf 1 b6 b7 b8 ∧ (p.length + 1 + 192) * (104 + 1) ≤ 70368744177664 ∧ ∃ br, br = p ++ [(b3, b4, b5, b6, b7, b8)] ∧ ref22_Clean_l2 u q (wi (a4 + 1)) al ad ae af c k br e z) ∨ ¬ a4 < 8 ∧ ref22_Clean_l3 u q 0 al ad ae af c k p ([] : List T_api_Rule) e z) ∨ ¬ a4 < (ae.length : Int) ∧ ref22_Clean_l3 u q 0 al ad ae af c k p ([] : List T_api_Rule) e z) : ref22_Clean_l2 u q a4 al ad ae af c k p e z := by
 intro ak av a9 a3 a6 bt ar l au j jb vs
 refine W.adv 1 (W.adv 5 ?_)
 refine W.opS (O.ldV 5 ((vs 5) + 1) 0 2 4 1 false false [(.agg [.str al, (.list 2 (ad.map E_api_Node)), (.list 6 (ae.map E_api_Link)), (.list 5 (af.map E_api_Rule))])] (.list 6 (ae.map E_api_Link))) ?_
 refine W.opS (O.ln ae E_api_Link) ?_
 refine W.adv 2 ?_
 rcases H with ⟨b9, H⟩ | ⟨b9, H⟩
 ·refine W.gt (a4 < (ae.length : Int)) b9 ?_
  refine W.adv 1 (W.gt (a4 < (ae.length : Int)) b9 ?_)
  refine W.adv 1 (W.opS (O.pk (decide (a4 < (ae.length : Int))) true (.bool (decide (a4 < 8))) (.bool false) (decide_eq_true b9)) ?_)
  refine W.adv 2 ?_
  rcases H with ⟨c5, H⟩ | ⟨c5, H⟩
  ·refine W.ct (a4 < 8) c5 ?_
   refine W.adv 7 (W.opS (O.ldV 5 ((vs 5) + 1) 0 2 4 1 false false [(.agg [.str al, (.list 2 (ad.map E_api_Node)), (.list 6 (ae.map E_api_Link)), (.list 5 (af.map E_api_Rule))])] (.list 6 (ae.map E_api_Link))) ?_)
   refine W.adv 1 ?_
   obtain ⟨dr, H⟩ := H
   obtain ⟨ba, bb, bc, bd, be, bf, dt, H⟩ := H
   refine W.opS (O.ixE E_api_Link 6 .i64 ae a4 (ByteArray.empty, ByteArray.empty, ByteArray.empty, false, [], []) (ba, bb, bc, bd, be, bf) dr b9 dt) ?_
   refine W.adv 2 (W.opH (O.stV 9 ((jb 9).ver + 1) 0 0 6 6 [(.agg [.str ⟨#[]⟩, .str ⟨#[]⟩, .str ⟨#[]⟩, .bool false, .nilS, .nilS])] [(.agg [.str ba, .str bb, .str bc, .bool bd, .ints .u64 be, .ints .u64 bf])] (.agg [.str ⟨#[]⟩, .str ⟨#[]⟩, .str ⟨#[]⟩, .bool false, .nilS, .nilS]) (.agg [.str ba, .str bb, .str bc, .bool bd, .ints .u64 be, .ints .u64 bf])) ?_)
   refine W.adv 4 (W.opS (O.ldV 6 ((vs 6) + 1) 0 2 4 1 false false [(.agg [.str c, ak, a3, .nilS])] a3) ?_)
   refine W.adv 1 (W.opS (O.ldV 9 ((jb 9).ver + 1) 0 0 6 1 false false [(.agg [.str ba, .str bb, .str bc, .bool bd, .ints .u64 be, .ints .u64 bf])] (.str ba)) ?_)
   obtain ⟨b3, du, H⟩ := H
   refine W.cl 58 [.str ba] (.str b3) du ?_
   refine W.adv 1 (W.opS (O.ldV 9 ((jb 9).ver + 1) 0 1 6 1 false false [(.agg [.str ba, .str bb, .str bc, .bool bd, .ints .u64 be, .ints .u64 bf])] (.str bb)) ?_)
   obtain ⟨b4, dw, H⟩ := H
   refine W.cl 58 [.str bb] (.str b4) dw ?_
   refine W.adv 1 (W.opS (O.ldV 9 ((jb 9).ver + 1) 0 2 6 1 false false [(.agg [.str ba, .str bb, .str bc, .bool bd, .ints .u64 be, .ints .u64 bf])] (.str bc)) ?_)
   obtain ⟨b5, dy, H⟩ := H
   refine W.cl 58 [.str bc] (.str b5) dy ?_
   refine W.adv 1 (W.opS (O.ldV 9 ((jb 9).ver + 1) 0 3 6 3 false true [(.agg [.str ba, .str bb, .str bc, .bool bd, .ints .u64 be, .ints .u64 bf])] (.agg [.bool bd, .ints .u64 be, .ints .u64 bf])) ?_)
   obtain ⟨b6, b7, b8, dz, H⟩ := H
   refine W.cl 98 [(.agg [.bool bd, .ints .u64 be, .ints .u64 bf]), .int .i64 1] (.agg [.bool b6, .ints .u64 b7, .ints .u64 b8]) dz ?_
   refine W.adv 2 ?_
   rcases bt with ⟨rfl, bv⟩ | ⟨an, rfl, rfl⟩
   ·subst bv
    obtain ⟨c6, H⟩ := H
    obtain ⟨br, ct, H⟩ := H
    have c7 : 1 = br.length := by rw [ct] <;> rfl
    refine W.opH (O.apENil E_api_Link (.lit (.list 6 [(.agg [.str b3, .str b4, .str b5, .bool b6, .ints .u64 b7, .ints .u64 b8])])) 104 103 a6.ver 6 [(b3, b4, b5, b6, b7, b8)] (ct.trans (List.nil_append _)) (by first | (simp; done) | (simp at c6 ⊢; omega) | omega)) ?_
    refine W.adv 1 (W.opH (O.stV 6 ((vs 6) + 1) 0 2 4 1 [(.agg [.str c, ak, .nilS, .nilS])] [(.agg [.str c, ak, (.sref 103 (a6.ver + 1) 6 0 1), .nilS])] (.agg [.str c, ak, .nilS, .nilS]) (.sref 103 (a6.ver + 1) 6 0 1)) ?_)
    exact W.adv 9 (W.tl (P := ref22_Clean_l2_s u q (wi (a4 + 1)) al ad ae af c k br e ak av (.sref 103 (a6.ver + 1) 6 0 1) (⟨(a6.ver + 1), false, .rows 6 (br.map E_api_Link)⟩) ar l) (H _ _ a9 _ _ (Opt.row (w := a6.ver) (by first | rfl | omega) c7) _ _ au))
   ·obtain ⟨c6, H⟩ := H
    obtain ⟨br, ct, H⟩ := H
    have c7 : (p.length + 1) = br.length := by rw [ct, List.length_append] <;> rfl
    refine W.opK (O.apERow E_api_Link (.lit (.list 6 [(.agg [.str b3, .str b4, .str b5, .bool b6, .ints .u64 b7, .ints .u64 b8])])) 104 103 (an + 1) 103 (an + 1) p.length 6 p [(b3, b4, b5, b6, b7, b8)] ct rfl c6) ?_
    refine W.adv 1 (W.opH (O.stV 6 ((vs 6) + 1) 0 2 4 1 [(.agg [.str c, ak, (.sref 103 (an + 1) 6 0 p.length), .nilS])] [(.agg [.str c, ak, (.sref 103 ((an + 1) + 1) 6 0 (p.length + 1)), .nilS])] (.agg [.str c, ak, (.sref 103 (an + 1) 6 0 p.length), .nilS]) (.sref 103 ((an + 1) + 1) 6 0 (p.length + 1))) ?_)
    exact W.adv 9 (W.tl (P := ref22_Clean_l2_s u q (wi (a4 + 1)) al ad ae af c k br e ak av (.sref 103 ((an + 1) + 1) 6 0 (p.length + 1)) (⟨((an + 1) + 1), false, .rows 6 (br.map E_api_Link)⟩) ar l) (H _ _ a9 _ _ (Opt.row (w := (an + 1)) (by first | rfl | omega) c7) _ _ au))
  ·refine W.cf (a4 < 8) c5 ?_
   exact W.adv 12 (W.tl (P := ref22_Clean_l3_s u q 0 al ad ae af c k p ([] : List T_api_Rule) e ak av a3 a6 .nilS (jb 125) ar l) (H _ _ a9 _ _ bt _ _ Opt.nil _ _ au))
 ·refine W.gf (a4 < (ae.length : Int)) b9 ?_
  refine W.gf (a4 < (ae.length : Int)) b9 ?_
  refine W.opS (O.pk (decide (a4 < (ae.length : Int))) false (.tuple []) (.bool false) (decide_eq_false b9)) ?_
  exact W.adv 15 (W.tl (P := ref22_Clean_l3_s u q 0 al ad ae af c k p ([] : List T_api_Rule) e ak av a3 a6 .nilS (jb 125) ar l) (H _ _ a9 _ _ bt _ _ Opt.nil _ _ au))
theorem ref22_Clean_l3_go (H : a5 < (af.length : Int) ∧ ((a5 < 8 ∧ 0 ≤ a5 ∧ ∃ cl cm cn cp cq, af.getD (a5).toNat (ByteArray.empty, 0, 0, false, []) = (cl, cm, cn, cp, cq) ∧ ∃ ca cc cd ce cf, ref22_CleanRule_R cl cm cn cp cq ca cc cd ce cf ∧ (aa.length + 1 + 192) * (64 + 1) ≤ 70368744177664 ∧ ∃ bu, bu = aa ++ [(ca, cc, cd, ce, cf)] ∧ ref22_Clean_l3 u q (wi (a5 + 1)) al ad ae af c k p bu e z) ∨ ¬ a5 < 8 ∧ (e.length + 1 + 192) * (88 + 1) ≤ 70368744177664 ∧ ∃ ab, ab = e ++ [(c, k, p, aa)] ∧ ref22_Clean_l0 u (wi (q + 1)) ab z) ∨ ¬ a5 < (af.length : Int) ∧ (e.length + 1 + 192) * (88 + 1) ≤ 70368744177664 ∧ ∃ ac, ac = e ++ [(c, k, p, aa)] ∧ ref22_Clean_l0 u (wi (q + 1)) ac z) : ref22_Clean_l3 u q a5 al ad ae af c k p aa e z := by
 intro ak av a9 a3 a6 bt bi bk bw ar l au j jb vs
 refine W.adv 1 (W.adv 5 ?_)
 refine W.opS (O.ldV 5 ((vs 5) + 1) 0 3 4 1 false false [(.agg [.str al, (.list 2 (ad.map E_api_Node)), (.list 6 (ae.map E_api_Link)), (.list 5 (af.map E_api_Rule))])] (.list 5 (af.map E_api_Rule))) ?_
 refine W.opS (O.ln af E_api_Rule) ?_
 refine W.adv 2 ?_
 rcases H with ⟨cg, H⟩ | ⟨cg, H⟩
 ·refine W.gt (a5 < (af.length : Int)) cg ?_
  refine W.adv 1 (W.gt (a5 < (af.length : Int)) cg ?_)
  refine W.adv 1 (W.opS (O.pk (decide (a5 < (af.length : Int))) true (.bool (decide (a5 < 8))) (.bool false) (decide_eq_true cg)) ?_)
  refine W.adv 2 ?_
  rcases H with ⟨c8, H⟩ | ⟨c8, H⟩
  ·refine W.ct (a5 < 8) c8 ?_
   refine W.adv 6 (W.opS (O.ldV 6 ((vs 6) + 1) 0 3 4 1 false false [(.agg [.str c, ak, a3, bi])] bi) ?_)
   refine W.adv 1 (W.opS (O.ldV 5 ((vs 5) + 1) 0 3 4 1 false false [(.agg [.str al, (.list 2 (ad.map E_api_Node)), (.list 6 (ae.map E_api_Link)), (.list 5 (af.map E_api_Rule))])] (.list 5 (af.map E_api_Rule))) ?_)
   refine W.adv 1 ?_
   obtain ⟨d1, H⟩ := H
   obtain ⟨cl, cm, cn, cp, cq, d2, H⟩ := H
   refine W.opS (O.ixE E_api_Rule 5 .i64 af a5 (ByteArray.empty, 0, 0, false, []) (cl, cm, cn, cp, cq) d1 cg d2) ?_
   refine W.adv 1 ?_
   obtain ⟨ca, cc, cd, ce, cf, d3, H⟩ := H
   refine W.cl 16 [(.agg [.str cl, .int .u32 cm, .int .i64 cn, .bool cp, (.list 1 (cq.map E71))])] (.agg [.str ca, .int .u32 cc, .int .i64 cd, .bool ce, (.list 1 (cf.map E71))]) d3 ?_
   refine W.adv 1 ?_
   rcases bw with ⟨rfl, a7⟩ | ⟨am, rfl, rfl⟩
   ·subst a7
    obtain ⟨da, H⟩ := H
    obtain ⟨bu, cu, H⟩ := H
    have db : 1 = bu.length := by rw [cu] <;> rfl
    refine W.opH (O.apENil E_api_Rule (.lit (.list 5 [(.agg [.str ca, .int .u32 cc, .int .i64 cd, .bool ce, (.list 1 (cf.map E71))])])) 64 125 bk.ver 5 [(ca, cc, cd, ce, cf)] (cu.trans (List.nil_append _)) (by first | (simp; done) | (simp at da ⊢; omega) | omega)) ?_
    refine W.adv 1 (W.opH (O.stV 6 ((vs 6) + 1) 0 3 4 1 [(.agg [.str c, ak, a3, .nilS])] [(.agg [.str c, ak, a3, (.sref 125 (bk.ver + 1) 5 0 1)])] (.agg [.str c, ak, a3, .nilS]) (.sref 125 (bk.ver + 1) 5 0 1)) ?_)
    exact W.adv 9 (W.tl (P := ref22_Clean_l3_s u q (wi (a5 + 1)) al ad ae af c k p bu e ak av a3 a6 (.sref 125 (bk.ver + 1) 5 0 1) (⟨(bk.ver + 1), false, .rows 5 (bu.map E_api_Rule)⟩) ar l) (H _ _ a9 _ _ bt _ _ (Opt.row (w := bk.ver) (by first | rfl | omega) db) _ _ au))
   ·obtain ⟨da, H⟩ := H
    obtain ⟨bu, cu, H⟩ := H
    have db : (aa.length + 1) = bu.length := by rw [cu, List.length_append] <;> rfl
    refine W.opK (O.apERow E_api_Rule (.lit (.list 5 [(.agg [.str ca, .int .u32 cc, .int .i64 cd, .bool ce, (.list 1 (cf.map E71))])])) 64 125 (am + 1) 125 (am + 1) aa.length 5 aa [(ca, cc, cd, ce, cf)] cu rfl da) ?_
    refine W.adv 1 (W.opH (O.stV 6 ((vs 6) + 1) 0 3 4 1 [(.agg [.str c, ak, a3, (.sref 125 (am + 1) 5 0 aa.length)])] [(.agg [.str c, ak, a3, (.sref 125 ((am + 1) + 1) 5 0 (aa.length + 1))])] (.agg [.str c, ak, a3, (.sref 125 (am + 1) 5 0 aa.length)]) (.sref 125 ((am + 1) + 1) 5 0 (aa.length + 1))) ?_)
    exact W.adv 9 (W.tl (P := ref22_Clean_l3_s u q (wi (a5 + 1)) al ad ae af c k p bu e ak av a3 a6 (.sref 125 ((am + 1) + 1) 5 0 (aa.length + 1)) (⟨((am + 1) + 1), false, .rows 5 (bu.map E_api_Rule)⟩) ar l) (H _ _ a9 _ _ bt _ _ (Opt.row (w := (am + 1)) (by first | rfl | omega) db) _ _ au))
  ·refine W.cf (a5 < 8) c8 ?_
   refine W.adv 7 (W.opS (O.ldV 6 ((vs 6) + 1) 0 0 4 4 false true [(.agg [.str c, ak, a3, bi])] (.agg [.str c, ak, a3, bi])) ?_)
   rcases a9 with ⟨rfl, cr⟩ | ⟨ap, rfl, rfl⟩
   ·subst cr
    rcases bt with ⟨rfl, bv⟩ | ⟨an, rfl, rfl⟩
    ·subst bv
     rcases bw with ⟨rfl, a7⟩ | ⟨am, rfl, rfl⟩
     ·subst a7
      refine W.adv 1 ?_
      rcases au with ⟨rfl, aq⟩ | ⟨f, rfl, rfl⟩
      ·subst aq
       obtain ⟨aw, H⟩ := H
       obtain ⟨ab, ag, H⟩ := H
       have ay : 1 = ab.length := by rw [ag] <;> rfl
       refine W.opH (O.apENil E_api_Net (.lit (.list 4 [(.agg [.str c, .list 2 [], .list 6 [], .list 5 []])])) 88 130 l.ver 4 [(c, [], [], [])] (ag.trans (List.nil_append _)) (by first | (simp; done) | (simp at aw ⊢; omega) | omega)) ?_
       exact W.adv 10 (W.tl (P := ref22_Clean_l0_s u (wi (q + 1)) ab (.sref 130 (l.ver + 1) 4 0 1) (⟨(l.ver + 1), false, .rows 4 (ab.map E_api_Net)⟩)) (H _ _ (Opt.row (w := l.ver) (by first | rfl | omega) ay)))
      ·obtain ⟨aw, H⟩ := H
       obtain ⟨ab, ag, H⟩ := H
       have ay : (e.length + 1) = ab.length := by rw [ag, List.length_append] <;> rfl
       refine W.opK (O.apERow E_api_Net (.lit (.list 4 [(.agg [.str c, .list 2 [], .list 6 [], .list 5 []])])) 88 130 (f + 1) 130 (f + 1) e.length 4 e [(c, [], [], [])] ag rfl aw) ?_
       exact W.adv 10 (W.tl (P := ref22_Clean_l0_s u (wi (q + 1)) ab (.sref 130 ((f + 1) + 1) 4 0 (e.length + 1)) (⟨((f + 1) + 1), false, .rows 4 (ab.map E_api_Net)⟩)) (H _ _ (Opt.row (w := (f + 1)) (by first | rfl | omega) ay)))
     ·refine W.opF (OpIs.bs (t := 22) (len := 1) (is := [0]) (vs := [(.agg [.str c, .nilS, .nilS, (.sref 125 (am + 1) 5 0 aa.length)])]) (es := [(.agg [.str c, .nilS, .nilS, (.list 5 (aa.map E_api_Rule))])]) (d := (.lit (.list 4 [(.agg [.str c, .list 2 [], .list 6 [], (.list 5 (aa.map E_api_Rule))])]))) (by kernel_rfl) (rf_cons (rf_agg (rf_cons (by kernel_rfl) (rf_cons (by kernel_rfl) (rf_cons (by kernel_rfl) (rf_cons (rf_fullE (enc := E_api_Rule) E_api_Rule_t (b := 125) (v := (am + 1)) (w := (am + 1)) (fz := false) (xs := aa) (by kernel_rfl) rfl rfl) rf_nil))))) rf_nil) (by kernel_rfl) rfl) ?_
      rcases au with ⟨rfl, aq⟩ | ⟨f, rfl, rfl⟩
      ·subst aq
       obtain ⟨aw, H⟩ := H
       obtain ⟨ab, ag, H⟩ := H
       have ay : 1 = ab.length := by rw [ag] <;> rfl
       refine W.opH (O.apENil E_api_Net (.lit (.list 4 [(.agg [.str c, .list 2 [], .list 6 [], (.list 5 (aa.map E_api_Rule))])])) 88 130 l.ver 4 [(c, [], [], aa)] (ag.trans (List.nil_append _)) (by first | (simp; done) | (simp at aw ⊢; omega) | omega)) ?_
       exact W.adv 10 (W.tl (P := ref22_Clean_l0_s u (wi (q + 1)) ab (.sref 130 (l.ver + 1) 4 0 1) (⟨(l.ver + 1), false, .rows 4 (ab.map E_api_Net)⟩)) (H _ _ (Opt.row (w := l.ver) (by first | rfl | omega) ay)))
      ·obtain ⟨aw, H⟩ := H
       obtain ⟨ab, ag, H⟩ := H
       have ay : (e.length + 1) = ab.length := by rw [ag, List.length_append] <;> rfl
       refine W.opK (O.apERow E_api_Net (.lit (.list 4 [(.agg [.str c, .list 2 [], .list 6 [], (.list 5 (aa.map E_api_Rule))])])) 88 130 (f + 1) 130 (f + 1) e.length 4 e [(c, [], [], aa)] ag rfl aw) ?_
       exact W.adv 10 (W.tl (P := ref22_Clean_l0_s u (wi (q + 1)) ab (.sref 130 ((f + 1) + 1) 4 0 (e.length + 1)) (⟨((f + 1) + 1), false, .rows 4 (ab.map E_api_Net)⟩)) (H _ _ (Opt.row (w := (f + 1)) (by first | rfl | omega) ay)))
    ·rcases bw with ⟨rfl, a7⟩ | ⟨am, rfl, rfl⟩
     ·subst a7
      refine W.opF (OpIs.bs (t := 22) (len := 1) (is := [0]) (vs := [(.agg [.str c, .nilS, (.sref 103 (an + 1) 6 0 p.length), .nilS])]) (es := [(.agg [.str c, .nilS, (.list 6 (p.map E_api_Link)), .nilS])]) (d := (.lit (.list 4 [(.agg [.str c, .list 2 [], (.list 6 (p.map E_api_Link)), .list 5 []])]))) (by kernel_rfl) (rf_cons (rf_agg (rf_cons (by kernel_rfl) (rf_cons (by kernel_rfl) (rf_cons (rf_fullE (enc := E_api_Link) E_api_Link_t (b := 103) (v := (an + 1)) (w := (an + 1)) (fz := false) (xs := p) (by kernel_rfl) rfl rfl) (rf_cons (by kernel_rfl) rf_nil))))) rf_nil) (by kernel_rfl) rfl) ?_
      rcases au with ⟨rfl, aq⟩ | ⟨f, rfl, rfl⟩
      ·subst aq
       obtain ⟨aw, H⟩ := H
       obtain ⟨ab, ag, H⟩ := H
       have ay : 1 = ab.length := by rw [ag] <;> rfl
       refine W.opH (O.apENil E_api_Net (.lit (.list 4 [(.agg [.str c, .list 2 [], (.list 6 (p.map E_api_Link)), .list 5 []])])) 88 130 l.ver 4 [(c, [], p, [])] (ag.trans (List.nil_append _)) (by first | (simp; done) | (simp at aw ⊢; omega) | omega)) ?_
       exact W.adv 10 (W.tl (P := ref22_Clean_l0_s u (wi (q + 1)) ab (.sref 130 (l.ver + 1) 4 0 1) (⟨(l.ver + 1), false, .rows 4 (ab.map E_api_Net)⟩)) (H _ _ (Opt.row (w := l.ver) (by first | rfl | omega) ay)))
      ·obtain ⟨aw, H⟩ := H
       obtain ⟨ab, ag, H⟩ := H
       have ay : (e.length + 1) = ab.length := by rw [ag, List.length_append] <;> rfl
       refine W.opK (O.apERow E_api_Net (.lit (.list 4 [(.agg [.str c, .list 2 [], (.list 6 (p.map E_api_Link)), .list 5 []])])) 88 130 (f + 1) 130 (f + 1) e.length 4 e [(c, [], p, [])] ag rfl aw) ?_
       exact W.adv 10 (W.tl (P := ref22_Clean_l0_s u (wi (q + 1)) ab (.sref 130 ((f + 1) + 1) 4 0 (e.length + 1)) (⟨((f + 1) + 1), false, .rows 4 (ab.map E_api_Net)⟩)) (H _ _ (Opt.row (w := (f + 1)) (by first | rfl | omega) ay)))
     ·refine W.opF (OpIs.bs (t := 22) (len := 1) (is := [0]) (vs := [(.agg [.str c, .nilS, (.sref 103 (an + 1) 6 0 p.length), (.sref 125 (am + 1) 5 0 aa.length)])]) (es := [(.agg [.str c, .nilS, (.list 6 (p.map E_api_Link)), (.list 5 (aa.map E_api_Rule))])]) (d := (.lit (.list 4 [(.agg [.str c, .list 2 [], (.list 6 (p.map E_api_Link)), (.list 5 (aa.map E_api_Rule))])]))) (by kernel_rfl) (rf_cons (rf_agg (rf_cons (by kernel_rfl) (rf_cons (by kernel_rfl) (rf_cons (rf_fullE (enc := E_api_Link) E_api_Link_t (b := 103) (v := (an + 1)) (w := (an + 1)) (fz := false) (xs := p) (by kernel_rfl) rfl rfl) (rf_cons (rf_fullE (enc := E_api_Rule) E_api_Rule_t (b := 125) (v := (am + 1)) (w := (am + 1)) (fz := false) (xs := aa) (by kernel_rfl) rfl rfl) rf_nil))))) rf_nil) (by kernel_rfl) rfl) ?_
      rcases au with ⟨rfl, aq⟩ | ⟨f, rfl, rfl⟩
      ·subst aq
       obtain ⟨aw, H⟩ := H
       obtain ⟨ab, ag, H⟩ := H
       have ay : 1 = ab.length := by rw [ag] <;> rfl
       refine W.opH (O.apENil E_api_Net (.lit (.list 4 [(.agg [.str c, .list 2 [], (.list 6 (p.map E_api_Link)), (.list 5 (aa.map E_api_Rule))])])) 88 130 l.ver 4 [(c, [], p, aa)] (ag.trans (List.nil_append _)) (by first | (simp; done) | (simp at aw ⊢; omega) | omega)) ?_
       exact W.adv 10 (W.tl (P := ref22_Clean_l0_s u (wi (q + 1)) ab (.sref 130 (l.ver + 1) 4 0 1) (⟨(l.ver + 1), false, .rows 4 (ab.map E_api_Net)⟩)) (H _ _ (Opt.row (w := l.ver) (by first | rfl | omega) ay)))
      ·obtain ⟨aw, H⟩ := H
       obtain ⟨ab, ag, H⟩ := H
       have ay : (e.length + 1) = ab.length := by rw [ag, List.length_append] <;> rfl
       refine W.opK (O.apERow E_api_Net (.lit (.list 4 [(.agg [.str c, .list 2 [], (.list 6 (p.map E_api_Link)), (.list 5 (aa.map E_api_Rule))])])) 88 130 (f + 1) 130 (f + 1) e.length 4 e [(c, [], p, aa)] ag rfl aw) ?_
       exact W.adv 10 (W.tl (P := ref22_Clean_l0_s u (wi (q + 1)) ab (.sref 130 ((f + 1) + 1) 4 0 (e.length + 1)) (⟨((f + 1) + 1), false, .rows 4 (ab.map E_api_Net)⟩)) (H _ _ (Opt.row (w := (f + 1)) (by first | rfl | omega) ay)))
   ·rcases bt with ⟨rfl, bv⟩ | ⟨an, rfl, rfl⟩
    ·subst bv
     rcases bw with ⟨rfl, a7⟩ | ⟨am, rfl, rfl⟩
     ·subst a7
      refine W.opF (OpIs.bs (t := 22) (len := 1) (is := [0]) (vs := [(.agg [.str c, (.sref 69 (ap + 1) 2 0 k.length), .nilS, .nilS])]) (es := [(.agg [.str c, (.list 2 (k.map E_api_Node)), .nilS, .nilS])]) (d := (.lit (.list 4 [(.agg [.str c, (.list 2 (k.map E_api_Node)), .list 6 [], .list 5 []])]))) (by kernel_rfl) (rf_cons (rf_agg (rf_cons (by kernel_rfl) (rf_cons (rf_fullE (enc := E_api_Node) E_api_Node_t (b := 69) (v := (ap + 1)) (w := (ap + 1)) (fz := false) (xs := k) (by kernel_rfl) rfl rfl) (rf_cons (by kernel_rfl) (rf_cons (by kernel_rfl) rf_nil))))) rf_nil) (by kernel_rfl) rfl) ?_
      rcases au with ⟨rfl, aq⟩ | ⟨f, rfl, rfl⟩
      ·subst aq
       obtain ⟨aw, H⟩ := H
       obtain ⟨ab, ag, H⟩ := H
       have ay : 1 = ab.length := by rw [ag] <;> rfl
       refine W.opH (O.apENil E_api_Net (.lit (.list 4 [(.agg [.str c, (.list 2 (k.map E_api_Node)), .list 6 [], .list 5 []])])) 88 130 l.ver 4 [(c, k, [], [])] (ag.trans (List.nil_append _)) (by first | (simp; done) | (simp at aw ⊢; omega) | omega)) ?_
       exact W.adv 10 (W.tl (P := ref22_Clean_l0_s u (wi (q + 1)) ab (.sref 130 (l.ver + 1) 4 0 1) (⟨(l.ver + 1), false, .rows 4 (ab.map E_api_Net)⟩)) (H _ _ (Opt.row (w := l.ver) (by first | rfl | omega) ay)))
      ·obtain ⟨aw, H⟩ := H
       obtain ⟨ab, ag, H⟩ := H
       have ay : (e.length + 1) = ab.length := by rw [ag, List.length_append] <;> rfl
       refine W.opK (O.apERow E_api_Net (.lit (.list 4 [(.agg [.str c, (.list 2 (k.map E_api_Node)), .list 6 [], .list 5 []])])) 88 130 (f + 1) 130 (f + 1) e.length 4 e [(c, k, [], [])] ag rfl aw) ?_
       exact W.adv 10 (W.tl (P := ref22_Clean_l0_s u (wi (q + 1)) ab (.sref 130 ((f + 1) + 1) 4 0 (e.length + 1)) (⟨((f + 1) + 1), false, .rows 4 (ab.map E_api_Net)⟩)) (H _ _ (Opt.row (w := (f + 1)) (by first | rfl | omega) ay)))
     ·refine W.opF (OpIs.bs (t := 22) (len := 1) (is := [0]) (vs := [(.agg [.str c, (.sref 69 (ap + 1) 2 0 k.length), .nilS, (.sref 125 (am + 1) 5 0 aa.length)])]) (es := [(.agg [.str c, (.list 2 (k.map E_api_Node)), .nilS, (.list 5 (aa.map E_api_Rule))])]) (d := (.lit (.list 4 [(.agg [.str c, (.list 2 (k.map E_api_Node)), .list 6 [], (.list 5 (aa.map E_api_Rule))])]))) (by kernel_rfl) (rf_cons (rf_agg (rf_cons (by kernel_rfl) (rf_cons (rf_fullE (enc := E_api_Node) E_api_Node_t (b := 69) (v := (ap + 1)) (w := (ap + 1)) (fz := false) (xs := k) (by kernel_rfl) rfl rfl) (rf_cons (by kernel_rfl) (rf_cons (rf_fullE (enc := E_api_Rule) E_api_Rule_t (b := 125) (v := (am + 1)) (w := (am + 1)) (fz := false) (xs := aa) (by kernel_rfl) rfl rfl) rf_nil))))) rf_nil) (by kernel_rfl) rfl) ?_
      rcases au with ⟨rfl, aq⟩ | ⟨f, rfl, rfl⟩
      ·subst aq
       obtain ⟨aw, H⟩ := H
       obtain ⟨ab, ag, H⟩ := H
       have ay : 1 = ab.length := by rw [ag] <;> rfl
       refine W.opH (O.apENil E_api_Net (.lit (.list 4 [(.agg [.str c, (.list 2 (k.map E_api_Node)), .list 6 [], (.list 5 (aa.map E_api_Rule))])])) 88 130 l.ver 4 [(c, k, [], aa)] (ag.trans (List.nil_append _)) (by first | (simp; done) | (simp at aw ⊢; omega) | omega)) ?_
       exact W.adv 10 (W.tl (P := ref22_Clean_l0_s u (wi (q + 1)) ab (.sref 130 (l.ver + 1) 4 0 1) (⟨(l.ver + 1), false, .rows 4 (ab.map E_api_Net)⟩)) (H _ _ (Opt.row (w := l.ver) (by first | rfl | omega) ay)))
      ·obtain ⟨aw, H⟩ := H
       obtain ⟨ab, ag, H⟩ := H
       have ay : (e.length + 1) = ab.length := by rw [ag, List.length_append] <;> rfl
       refine W.opK (O.apERow E_api_Net (.lit (.list 4 [(.agg [.str c, (.list 2 (k.map E_api_Node)), .list 6 [], (.list 5 (aa.map E_api_Rule))])])) 88 130 (f + 1) 130 (f + 1) e.length 4 e [(c, k, [], aa)] ag rfl aw) ?_
       exact W.adv 10 (W.tl (P := ref22_Clean_l0_s u (wi (q + 1)) ab (.sref 130 ((f + 1) + 1) 4 0 (e.length + 1)) (⟨((f + 1) + 1), false, .rows 4 (ab.map E_api_Net)⟩)) (H _ _ (Opt.row (w := (f + 1)) (by first | rfl | omega) ay)))
    ·rcases bw with ⟨rfl, a7⟩ | ⟨am, rfl, rfl⟩
     ·subst a7
      refine W.opF (OpIs.bs (t := 22) (len := 1) (is := [0]) (vs := [(.agg [.str c, (.sref 69 (ap + 1) 2 0 k.length), (.sref 103 (an + 1) 6 0 p.length), .nilS])]) (es := [(.agg [.str c, (.list 2 (k.map E_api_Node)), (.list 6 (p.map E_api_Link)), .nilS])]) (d := (.lit (.list 4 [(.agg [.str c, (.list 2 (k.map E_api_Node)), (.list 6 (p.map E_api_Link)), .list 5 []])]))) (by kernel_rfl) (rf_cons (rf_agg (rf_cons (by kernel_rfl) (rf_cons (rf_fullE (enc := E_api_Node) E_api_Node_t (b := 69) (v := (ap + 1)) (w := (ap + 1)) (fz := false) (xs := k) (by kernel_rfl) rfl rfl) (rf_cons (rf_fullE (enc := E_api_Link) E_api_Link_t (b := 103) (v := (an + 1)) (w := (an + 1)) (fz := false) (xs := p) (by kernel_rfl) rfl rfl) (rf_cons (by kernel_rfl) rf_nil))))) rf_nil) (by kernel_rfl) rfl) ?_
      rcases au with ⟨rfl, aq⟩ | ⟨f, rfl, rfl⟩
      ·subst aq
       obtain ⟨aw, H⟩ := H
       obtain ⟨ab, ag, H⟩ := H
       have ay : 1 = ab.length := by rw [ag] <;> rfl
       refine W.opH (O.apENil E_api_Net (.lit (.list 4 [(.agg [.str c, (.list 2 (k.map E_api_Node)), (.list 6 (p.map E_api_Link)), .list 5 []])])) 88 130 l.ver 4 [(c, k, p, [])] (ag.trans (List.nil_append _)) (by first | (simp; done) | (simp at aw ⊢; omega) | omega)) ?_
       exact W.adv 10 (W.tl (P := ref22_Clean_l0_s u (wi (q + 1)) ab (.sref 130 (l.ver + 1) 4 0 1) (⟨(l.ver + 1), false, .rows 4 (ab.map E_api_Net)⟩)) (H _ _ (Opt.row (w := l.ver) (by first | rfl | omega) ay)))
      ·obtain ⟨aw, H⟩ := H
       obtain ⟨ab, ag, H⟩ := H
       have ay : (e.length + 1) = ab.length := by rw [ag, List.length_append] <;> rfl
       refine W.opK (O.apERow E_api_Net (.lit (.list 4 [(.agg [.str c, (.list 2 (k.map E_api_Node)), (.list 6 (p.map E_api_Link)), .list 5 []])])) 88 130 (f + 1) 130 (f + 1) e.length 4 e [(c, k, p, [])] ag rfl aw) ?_
       exact W.adv 10 (W.tl (P := ref22_Clean_l0_s u (wi (q + 1)) ab (.sref 130 ((f + 1) + 1) 4 0 (e.length + 1)) (⟨((f + 1) + 1), false, .rows 4 (ab.map E_api_Net)⟩)) (H _ _ (Opt.row (w := (f + 1)) (by first | rfl | omega) ay)))
     ·refine W.opF (OpIs.bs (t := 22) (len := 1) (is := [0]) (vs := [(.agg [.str c, (.sref 69 (ap + 1) 2 0 k.length), (.sref 103 (an + 1) 6 0 p.length), (.sref 125 (am + 1) 5 0 aa.length)])]) (es := [(.agg [.str c, (.list 2 (k.map E_api_Node)), (.list 6 (p.map E_api_Link)), (.list 5 (aa.map E_api_Rule))])]) (d := (.lit (.list 4 [(.agg [.str c, (.list 2 (k.map E_api_Node)), (.list 6 (p.map E_api_Link)), (.list 5 (aa.map E_api_Rule))])]))) (by kernel_rfl) (rf_cons (rf_agg (rf_cons (by kernel_rfl) (rf_cons (rf_fullE (enc := E_api_Node) E_api_Node_t (b := 69) (v := (ap + 1)) (w := (ap + 1)) (fz := false) (xs := k) (by kernel_rfl) rfl rfl) (rf_cons (rf_fullE (enc := E_api_Link) E_api_Link_t (b := 103) (v := (an + 1)) (w := (an + 1)) (fz := false) (xs := p) (by kernel_rfl) rfl rfl) (rf_cons (rf_fullE (enc := E_api_Rule) E_api_Rule_t (b := 125) (v := (am + 1)) (w := (am + 1)) (fz := false) (xs := aa) (by kernel_rfl) rfl rfl) rf_nil))))) rf_nil) (by kernel_rfl) rfl) ?_
      rcases au with ⟨rfl, aq⟩ | ⟨f, rfl, rfl⟩
      ·subst aq
       obtain ⟨aw, H⟩ := H
       obtain ⟨ab, ag, H⟩ := H
       have ay : 1 = ab.length := by rw [ag] <;> rfl
       refine W.opH (O.apENil E_api_Net (.lit (.list 4 [(.agg [.str c, (.list 2 (k.map E_api_Node)), (.list 6 (p.map E_api_Link)), (.list 5 (aa.map E_api_Rule))])])) 88 130 l.ver 4 [(c, k, p, aa)] (ag.trans (List.nil_append _)) (by first | (simp; done) | (simp at aw ⊢; omega) | omega)) ?_
       exact W.adv 10 (W.tl (P := ref22_Clean_l0_s u (wi (q + 1)) ab (.sref 130 (l.ver + 1) 4 0 1) (⟨(l.ver + 1), false, .rows 4 (ab.map E_api_Net)⟩)) (H _ _ (Opt.row (w := l.ver) (by first | rfl | omega) ay)))
      ·obtain ⟨aw, H⟩ := H
       obtain ⟨ab, ag, H⟩ := H
       have ay : (e.length + 1) = ab.length := by rw [ag, List.length_append] <;> rfl
       refine W.opK (O.apERow E_api_Net (.lit (.list 4 [(.agg [.str c, (.list 2 (k.map E_api_Node)), (.list 6 (p.map E_api_Link)), (.list 5 (aa.map E_api_Rule))])])) 88 130 (f + 1) 130 (f + 1) e.length 4 e [(c, k, p, aa)] ag rfl aw) ?_
       exact W.adv 10 (W.tl (P := ref22_Clean_l0_s u (wi (q + 1)) ab (.sref 130 ((f + 1) + 1) 4 0 (e.length + 1)) (⟨((f + 1) + 1), false, .rows 4 (ab.map E_api_Net)⟩)) (H _ _ (Opt.row (w := (f + 1)) (by first | rfl | omega) ay)))
 ·refine W.gf (a5 < (af.length : Int)) cg ?_
  refine W.gf (a5 < (af.length : Int)) cg ?_
  refine W.opS (O.pk (decide (a5 < (af.length : Int))) false (.tuple []) (.bool false) (decide_eq_false cg)) ?_
  refine W.adv 10 (W.opS (O.ldV 6 ((vs 6) + 1) 0 0 4 4 false true [(.agg [.str c, ak, a3, bi])] (.agg [.str c, ak, a3, bi])) ?_)
  rcases a9 with ⟨rfl, cr⟩ | ⟨ap, rfl, rfl⟩
  ·subst cr
   rcases bt with ⟨rfl, bv⟩ | ⟨an, rfl, rfl⟩
   ·subst bv
    rcases bw with ⟨rfl, a7⟩ | ⟨am, rfl, rfl⟩
    ·subst a7
     refine W.adv 1 ?_
     rcases au with ⟨rfl, aq⟩ | ⟨f, rfl, rfl⟩
     ·subst aq
      obtain ⟨az, H⟩ := H
      obtain ⟨ac, ai, H⟩ := H
      have a1 : 1 = ac.length := by rw [ai] <;> rfl
      refine W.opH (O.apENil E_api_Net (.lit (.list 4 [(.agg [.str c, .list 2 [], .list 6 [], .list 5 []])])) 88 130 l.ver 4 [(c, [], [], [])] (ai.trans (List.nil_append _)) (by first | (simp; done) | (simp at az ⊢; omega) | omega)) ?_
      exact W.adv 10 (W.tl (P := ref22_Clean_l0_s u (wi (q + 1)) ac (.sref 130 (l.ver + 1) 4 0 1) (⟨(l.ver + 1), false, .rows 4 (ac.map E_api_Net)⟩)) (H _ _ (Opt.row (w := l.ver) (by first | rfl | omega) a1)))
     ·obtain ⟨az, H⟩ := H
      obtain ⟨ac, ai, H⟩ := H
      have a1 : (e.length + 1) = ac.length := by rw [ai, List.length_append] <;> rfl
      refine W.opK (O.apERow E_api_Net (.lit (.list 4 [(.agg [.str c, .list 2 [], .list 6 [], .list 5 []])])) 88 130 (f + 1) 130 (f + 1) e.length 4 e [(c, [], [], [])] ai rfl az) ?_
      exact W.adv 10 (W.tl (P := ref22_Clean_l0_s u (wi (q + 1)) ac (.sref 130 ((f + 1) + 1) 4 0 (e.length + 1)) (⟨((f + 1) + 1), false, .rows 4 (ac.map E_api_Net)⟩)) (H _ _ (Opt.row (w := (f + 1)) (by first | rfl | omega) a1)))
    ·refine W.opF (OpIs.bs (t := 22) (len := 1) (is := [0]) (vs := [(.agg [.str c, .nilS, .nilS, (.sref 125 (am + 1) 5 0 aa.length)])]) (es := [(.agg [.str c, .nilS, .nilS, (.list 5 (aa.map E_api_Rule))])]) (d := (.lit (.list 4 [(.agg [.str c, .list 2 [], .list 6 [], (.list 5 (aa.map E_api_Rule))])]))) (by kernel_rfl) (rf_cons (rf_agg (rf_cons (by kernel_rfl) (rf_cons (by kernel_rfl) (rf_cons (by kernel_rfl) (rf_cons (rf_fullE (enc := E_api_Rule) E_api_Rule_t (b := 125) (v := (am + 1)) (w := (am + 1)) (fz := false) (xs := aa) (by kernel_rfl) rfl rfl) rf_nil))))) rf_nil) (by kernel_rfl) rfl) ?_
     rcases au with ⟨rfl, aq⟩ | ⟨f, rfl, rfl⟩
     ·subst aq
      obtain ⟨az, H⟩ := H
      obtain ⟨ac, ai, H⟩ := H
      have a1 : 1 = ac.length := by rw [ai] <;> rfl
      refine W.opH (O.apENil E_api_Net (.lit (.list 4 [(.agg [.str c, .list 2 [], .list 6 [], (.list 5 (aa.map E_api_Rule))])])) 88 130 l.ver 4 [(c, [], [], aa)] (ai.trans (List.nil_append _)) (by first | (simp; done) | (simp at az ⊢; omega) | omega)) ?_
      exact W.adv 10 (W.tl (P := ref22_Clean_l0_s u (wi (q + 1)) ac (.sref 130 (l.ver + 1) 4 0 1) (⟨(l.ver + 1), false, .rows 4 (ac.map E_api_Net)⟩)) (H _ _ (Opt.row (w := l.ver) (by first | rfl | omega) a1)))
     ·obtain ⟨az, H⟩ := H
      obtain ⟨ac, ai, H⟩ := H
      have a1 : (e.length + 1) = ac.length := by rw [ai, List.length_append] <;> rfl
      refine W.opK (O.apERow E_api_Net (.lit (.list 4 [(.agg [.str c, .list 2 [], .list 6 [], (.list 5 (aa.map E_api_Rule))])])) 88 130 (f + 1) 130 (f + 1) e.length 4 e [(c, [], [], aa)] ai rfl az) ?_
      exact W.adv 10 (W.tl (P := ref22_Clean_l0_s u (wi (q + 1)) ac (.sref 130 ((f + 1) + 1) 4 0 (e.length + 1)) (⟨((f + 1) + 1), false, .rows 4 (ac.map E_api_Net)⟩)) (H _ _ (Opt.row (w := (f + 1)) (by first | rfl | omega) a1)))
   ·rcases bw with ⟨rfl, a7⟩ | ⟨am, rfl, rfl⟩
    ·subst a7
     refine W.opF (OpIs.bs (t := 22) (len := 1) (is := [0]) (vs := [(.agg [.str c, .nilS, (.sref 103 (an + 1) 6 0 p.length), .nilS])]) (es := [(.agg [.str c, .nilS, (.list 6 (p.map E_api_Link)), .nilS])]) (d := (.lit (.list 4 [(.agg [.str c, .list 2 [], (.list 6 (p.map E_api_Link)), .list 5 []])]))) (by kernel_rfl) (rf_cons (rf_agg (rf_cons (by kernel_rfl) (rf_cons (by kernel_rfl) (rf_cons (rf_fullE (enc := E_api_Link) E_api_Link_t (b := 103) (v := (an + 1)) (w := (an + 1)) (fz := false) (xs := p) (by kernel_rfl) rfl rfl) (rf_cons (by kernel_rfl) rf_nil))))) rf_nil) (by kernel_rfl) rfl) ?_
     rcases au with ⟨rfl, aq⟩ | ⟨f, rfl, rfl⟩
     ·subst aq
      obtain ⟨az, H⟩ := H
      obtain ⟨ac, ai, H⟩ := H
      have a1 : 1 = ac.length := by rw [ai] <;> rfl
      refine W.opH (O.apENil E_api_Net (.lit (.list 4 [(.agg [.str c, .list 2 [], (.list 6 (p.map E_api_Link)), .list 5 []])])) 88 130 l.ver 4 [(c, [], p, [])] (ai.trans (List.nil_append _)) (by first | (simp; done) | (simp at az ⊢; omega) | omega)) ?_
      exact W.adv 10 (W.tl (P := ref22_Clean_l0_s u (wi (q + 1)) ac (.sref 130 (l.ver + 1) 4 0 1) (⟨(l.ver + 1), false, .rows 4 (ac.map E_api_Net)⟩)) (H _ _ (Opt.row (w := l.ver) (by first | rfl | omega) a1)))
     ·obtain ⟨az, H⟩ := H
      obtain ⟨ac, ai, H⟩ := H
      have a1 : (e.length + 1) = ac.length := by rw [ai, List.length_append] <;> rfl
      refine W.opK (O.apERow E_api_Net (.lit (.list 4 [(.agg [.str c, .list 2 [], (.list 6 (p.map E_api_Link)), .list 5 []])])) 88 130 (f + 1) 130 (f + 1) e.length 4 e [(c, [], p, [])] ai rfl az) ?_
      exact W.adv 10 (W.tl (P := ref22_Clean_l0_s u (wi (q + 1)) ac (.sref 130 ((f + 1) + 1) 4 0 (e.length + 1)) (⟨((f + 1) + 1), false, .rows 4 (ac.map E_api_Net)⟩)) (H _ _ (Opt.row (w := (f + 1)) (by first | rfl | omega) a1)))
    ·refine W.opF (OpIs.bs (t := 22) (len := 1) (is := [0]) (vs := [(.agg [.str c, .nilS, (.sref 103 (an + 1) 6 0 p.length), (.sref 125 (am + 1) 5 0 aa.length)])]) (es := [(.agg [.str c, .nilS, (.list 6 (p.map E_api_Link)), (.list 5 (aa.map E_api_Rule))])]) (d := (.lit (.list 4 [(.agg [.str c, .list 2 [], (.list 6 (p.map E_api_Link)), (.list 5 (aa.map E_api_Rule))])]))) (by kernel_rfl) (rf_cons (rf_agg (rf_cons (by kernel_rfl) (rf_cons (by kernel_rfl) (rf_cons (rf_fullE (enc := E_api_Link) E_api_Link_t (b := 103) (v := (an + 1)) (w := (an + 1)) (fz := false) (xs := p) (by kernel_rfl) rfl rfl) (rf_cons (rf_fullE (enc := E_api_Rule) E_api_Rule_t (b := 125) (v := (am + 1)) (w := (am + 1)) (fz := false) (xs := aa) (by kernel_rfl) rfl rfl) rf_nil))))) rf_nil) (by kernel_rfl) rfl) ?_
     rcases au with ⟨rfl, aq⟩ | ⟨f, rfl, rfl⟩
     ·subst aq
      obtain ⟨az, H⟩ := H
      obtain ⟨ac, ai, H⟩ := H
      have a1 : 1 = ac.length := by rw [ai] <;> rfl
      refine W.opH (O.apENil E_api_Net (.lit (.list 4 [(.agg [.str c, .list 2 [], (.list 6 (p.map E_api_Link)), (.list 5 (aa.map E_api_Rule))])])) 88 130 l.ver 4 [(c, [], p, aa)] (ai.trans (List.nil_append _)) (by first | (simp; done) | (simp at az ⊢; omega) | omega)) ?_
      exact W.adv 10 (W.tl (P := ref22_Clean_l0_s u (wi (q + 1)) ac (.sref 130 (l.ver + 1) 4 0 1) (⟨(l.ver + 1), false, .rows 4 (ac.map E_api_Net)⟩)) (H _ _ (Opt.row (w := l.ver) (by first | rfl | omega) a1)))
     ·obtain ⟨az, H⟩ := H
      obtain ⟨ac, ai, H⟩ := H
      have a1 : (e.length + 1) = ac.length := by rw [ai, List.length_append] <;> rfl
      refine W.opK (O.apERow E_api_Net (.lit (.list 4 [(.agg [.str c, .list 2 [], (.list 6 (p.map E_api_Link)), (.list 5 (aa.map E_api_Rule))])])) 88 130 (f + 1) 130 (f + 1) e.length 4 e [(c, [], p, aa)] ai rfl az) ?_
      exact W.adv 10 (W.tl (P := ref22_Clean_l0_s u (wi (q + 1)) ac (.sref 130 ((f + 1) + 1) 4 0 (e.length + 1)) (⟨((f + 1) + 1), false, .rows 4 (ac.map E_api_Net)⟩)) (H _ _ (Opt.row (w := (f + 1)) (by first | rfl | omega) a1)))
  ·rcases bt with ⟨rfl, bv⟩ | ⟨an, rfl, rfl⟩
   ·subst bv
    rcases bw with ⟨rfl, a7⟩ | ⟨am, rfl, rfl⟩
    ·subst a7
     refine W.opF (OpIs.bs (t := 22) (len := 1) (is := [0]) (vs := [(.agg [.str c, (.sref 69 (ap + 1) 2 0 k.length), .nilS, .nilS])]) (es := [(.agg [.str c, (.list 2 (k.map E_api_Node)), .nilS, .nilS])]) (d := (.lit (.list 4 [(.agg [.str c, (.list 2 (k.map E_api_Node)), .list 6 [], .list 5 []])]))) (by kernel_rfl) (rf_cons (rf_agg (rf_cons (by kernel_rfl) (rf_cons (rf_fullE (enc := E_api_Node) E_api_Node_t (b := 69) (v := (ap + 1)) (w := (ap + 1)) (fz := false) (xs := k) (by kernel_rfl) rfl rfl) (rf_cons (by kernel_rfl) (rf_cons (by kernel_rfl) rf_nil))))) rf_nil) (by kernel_rfl) rfl) ?_
     rcases au with ⟨rfl, aq⟩ | ⟨f, rfl, rfl⟩
     ·subst aq
      obtain ⟨az, H⟩ := H
      obtain ⟨ac, ai, H⟩ := H
      have a1 : 1 = ac.length := by rw [ai] <;> rfl
      refine W.opH (O.apENil E_api_Net (.lit (.list 4 [(.agg [.str c, (.list 2 (k.map E_api_Node)), .list 6 [], .list 5 []])])) 88 130 l.ver 4 [(c, k, [], [])] (ai.trans (List.nil_append _)) (by first | (simp; done) | (simp at az ⊢; omega) | omega)) ?_
      exact W.adv 10 (W.tl (P := ref22_Clean_l0_s u (wi (q + 1)) ac (.sref 130 (l.ver + 1) 4 0 1) (⟨(l.ver + 1), false, .rows 4 (ac.map E_api_Net)⟩)) (H _ _ (Opt.row (w := l.ver) (by first | rfl | omega) a1)))
     ·obtain ⟨az, H⟩ := H
      obtain ⟨ac, ai, H⟩ := H
      have a1 : (e.length + 1) = ac.length := by rw [ai, List.length_append] <;> rfl
      refine W.opK (O.apERow E_api_Net (.lit (.list 4 [(.agg [.str c, (.list 2 (k.map E_api_Node)), .list 6 [], .list 5 []])])) 88 130 (f + 1) 130 (f + 1) e.length 4 e [(c, k, [], [])] ai rfl az) ?_
      exact W.adv 10 (W.tl (P := ref22_Clean_l0_s u (wi (q + 1)) ac (.sref 130 ((f + 1) + 1) 4 0 (e.length + 1)) (⟨((f + 1) + 1), false, .rows 4 (ac.map E_api_Net)⟩)) (H _ _ (Opt.row (w := (f + 1)) (by first | rfl | omega) a1)))
    ·refine W.opF (OpIs.bs (t := 22) (len := 1) (is := [0]) (vs := [(.agg [.str c, (.sref 69 (ap + 1) 2 0 k.length), .nilS, (.sref 125 (am + 1) 5 0 aa.length)])]) (es := [(.agg [.str c, (.list 2 (k.map E_api_Node)), .nilS, (.list 5 (aa.map E_api_Rule))])]) (d := (.lit (.list 4 [(.agg [.str c, (.list 2 (k.map E_api_Node)), .list 6 [], (.list 5 (aa.map E_api_Rule))])]))) (by kernel_rfl) (rf_cons (rf_agg (rf_cons (by kernel_rfl) (rf_cons (rf_fullE (enc := E_api_Node) E_api_Node_t (b := 69) (v := (ap + 1)) (w := (ap + 1)) (fz := false) (xs := k) (by kernel_rfl) rfl rfl) (rf_cons (by kernel_rfl) (rf_cons (rf_fullE (enc := E_api_Rule) E_api_Rule_t (b := 125) (v := (am + 1)) (w := (am + 1)) (fz := false) (xs := aa) (by kernel_rfl) rfl rfl) rf_nil))))) rf_nil) (by kernel_rfl) rfl) ?_
     rcases au with ⟨rfl, aq⟩ | ⟨f, rfl, rfl⟩
     ·subst aq
      obtain ⟨az, H⟩ := H
      obtain ⟨ac, ai, H⟩ := H
      have a1 : 1 = ac.length := by rw [ai] <;> rfl
      refine W.opH (O.apENil E_api_Net (.lit (.list 4 [(.agg [.str c, (.list 2 (k.map E_api_Node)), .list 6 [], (.list 5 (aa.map E_api_Rule))])])) 88 130 l.ver 4 [(c, k, [], aa)] (ai.trans (List.nil_append _)) (by first | (simp; done) | (simp at az ⊢; omega) | omega)) ?_
      exact W.adv 10 (W.tl (P := ref22_Clean_l0_s u (wi (q + 1)) ac (.sref 130 (l.ver + 1) 4 0 1) (⟨(l.ver + 1), false, .rows 4 (ac.map E_api_Net)⟩)) (H _ _ (Opt.row (w := l.ver) (by first | rfl | omega) a1)))
     ·obtain ⟨az, H⟩ := H
      obtain ⟨ac, ai, H⟩ := H
      have a1 : (e.length + 1) = ac.length := by rw [ai, List.length_append] <;> rfl
      refine W.opK (O.apERow E_api_Net (.lit (.list 4 [(.agg [.str c, (.list 2 (k.map E_api_Node)), .list 6 [], (.list 5 (aa.map E_api_Rule))])])) 88 130 (f + 1) 130 (f + 1) e.length 4 e [(c, k, [], aa)] ai rfl az) ?_
      exact W.adv 10 (W.tl (P := ref22_Clean_l0_s u (wi (q + 1)) ac (.sref 130 ((f + 1) + 1) 4 0 (e.length + 1)) (⟨((f + 1) + 1), false, .rows 4 (ac.map E_api_Net)⟩)) (H _ _ (Opt.row (w := (f + 1)) (by first | rfl | omega) a1)))
   ·rcases bw with ⟨rfl, a7⟩ | ⟨am, rfl, rfl⟩
    ·subst a7
     refine W.opF (OpIs.bs (t := 22) (len := 1) (is := [0]) (vs := [(.agg [.str c, (.sref 69 (ap + 1) 2 0 k.length), (.sref 103 (an + 1) 6 0 p.length), .nilS])]) (es := [(.agg [.str c, (.list 2 (k.map E_api_Node)), (.list 6 (p.map E_api_Link)), .nilS])]) (d := (.lit (.list 4 [(.agg [.str c, (.list 2 (k.map E_api_Node)), (.list 6 (p.map E_api_Link)), .list 5 []])]))) (by kernel_rfl) (rf_cons (rf_agg (rf_cons (by kernel_rfl) (rf_cons (rf_fullE (enc := E_api_Node) E_api_Node_t (b := 69) (v := (ap + 1)) (w := (ap + 1)) (fz := false) (xs := k) (by kernel_rfl) rfl rfl) (rf_cons (rf_fullE (enc := E_api_Link) E_api_Link_t (b := 103) (v := (an + 1)) (w := (an + 1)) (fz := false) (xs := p) (by kernel_rfl) rfl rfl) (rf_cons (by kernel_rfl) rf_nil))))) rf_nil) (by kernel_rfl) rfl) ?_
     rcases au with ⟨rfl, aq⟩ | ⟨f, rfl, rfl⟩
     ·subst aq
      obtain ⟨az, H⟩ := H
      obtain ⟨ac, ai, H⟩ := H
      have a1 : 1 = ac.length := by rw [ai] <;> rfl
      refine W.opH (O.apENil E_api_Net (.lit (.list 4 [(.agg [.str c, (.list 2 (k.map E_api_Node)), (.list 6 (p.map E_api_Link)), .list 5 []])])) 88 130 l.ver 4 [(c, k, p, [])] (ai.trans (List.nil_append _)) (by first | (simp; done) | (simp at az ⊢; omega) | omega)) ?_
      exact W.adv 10 (W.tl (P := ref22_Clean_l0_s u (wi (q + 1)) ac (.sref 130 (l.ver + 1) 4 0 1) (⟨(l.ver + 1), false, .rows 4 (ac.map E_api_Net)⟩)) (H _ _ (Opt.row (w := l.ver) (by first | rfl | omega) a1)))
     ·obtain ⟨az, H⟩ := H
      obtain ⟨ac, ai, H⟩ := H
      have a1 : (e.length + 1) = ac.length := by rw [ai, List.length_append] <;> rfl
      refine W.opK (O.apERow E_api_Net (.lit (.list 4 [(.agg [.str c, (.list 2 (k.map E_api_Node)), (.list 6 (p.map E_api_Link)), .list 5 []])])) 88 130 (f + 1) 130 (f + 1) e.length 4 e [(c, k, p, [])] ai rfl az) ?_
      exact W.adv 10 (W.tl (P := ref22_Clean_l0_s u (wi (q + 1)) ac (.sref 130 ((f + 1) + 1) 4 0 (e.length + 1)) (⟨((f + 1) + 1), false, .rows 4 (ac.map E_api_Net)⟩)) (H _ _ (Opt.row (w := (f + 1)) (by first | rfl | omega) a1)))
    ·refine W.opF (OpIs.bs (t := 22) (len := 1) (is := [0]) (vs := [(.agg [.str c, (.sref 69 (ap + 1) 2 0 k.length), (.sref 103 (an + 1) 6 0 p.length), (.sref 125 (am + 1) 5 0 aa.length)])]) (es := [(.agg [.str c, (.list 2 (k.map E_api_Node)), (.list 6 (p.map E_api_Link)), (.list 5 (aa.map E_api_Rule))])]) (d := (.lit (.list 4 [(.agg [.str c, (.list 2 (k.map E_api_Node)), (.list 6 (p.map E_api_Link)), (.list 5 (aa.map E_api_Rule))])]))) (by kernel_rfl) (rf_cons (rf_agg (rf_cons (by kernel_rfl) (rf_cons (rf_fullE (enc := E_api_Node) E_api_Node_t (b := 69) (v := (ap + 1)) (w := (ap + 1)) (fz := false) (xs := k) (by kernel_rfl) rfl rfl) (rf_cons (rf_fullE (enc := E_api_Link) E_api_Link_t (b := 103) (v := (an + 1)) (w := (an + 1)) (fz := false) (xs := p) (by kernel_rfl) rfl rfl) (rf_cons (rf_fullE (enc := E_api_Rule) E_api_Rule_t (b := 125) (v := (am + 1)) (w := (am + 1)) (fz := false) (xs := aa) (by kernel_rfl) rfl rfl) rf_nil))))) rf_nil) (by kernel_rfl) rfl) ?_
     rcases au with ⟨rfl, aq⟩ | ⟨f, rfl, rfl⟩
     ·subst aq
      obtain ⟨az, H⟩ := H
      obtain ⟨ac, ai, H⟩ := H
      have a1 : 1 = ac.length := by rw [ai] <;> rfl
      refine W.opH (O.apENil E_api_Net (.lit (.list 4 [(.agg [.str c, (.list 2 (k.map E_api_Node)), (.list 6 (p.map E_api_Link)), (.list 5 (aa.map E_api_Rule))])])) 88 130 l.ver 4 [(c, k, p, aa)] (ai.trans (List.nil_append _)) (by first | (simp; done) | (simp at az ⊢; omega) | omega)) ?_
      exact W.adv 10 (W.tl (P := ref22_Clean_l0_s u (wi (q + 1)) ac (.sref 130 (l.ver + 1) 4 0 1) (⟨(l.ver + 1), false, .rows 4 (ac.map E_api_Net)⟩)) (H _ _ (Opt.row (w := l.ver) (by first | rfl | omega) a1)))
     ·obtain ⟨az, H⟩ := H
      obtain ⟨ac, ai, H⟩ := H
      have a1 : (e.length + 1) = ac.length := by rw [ai, List.length_append] <;> rfl
      refine W.opK (O.apERow E_api_Net (.lit (.list 4 [(.agg [.str c, (.list 2 (k.map E_api_Node)), (.list 6 (p.map E_api_Link)), (.list 5 (aa.map E_api_Rule))])])) 88 130 (f + 1) 130 (f + 1) e.length 4 e [(c, k, p, aa)] ai rfl az) ?_
      exact W.adv 10 (W.tl (P := ref22_Clean_l0_s u (wi (q + 1)) ac (.sref 130 ((f + 1) + 1) 4 0 (e.length + 1)) (⟨((f + 1) + 1), false, .rows 4 (ac.map E_api_Net)⟩)) (H _ _ (Opt.row (w := (f + 1)) (by first | rfl | omega) a1)))
theorem ref22_Clean_go (H : ref22_Clean_l0 cv 0 ([] : List T_api_Net) z) : ref22_Clean_R cv z := by
 refine W.ii Tryz.func34 ?_
 exact W.adv 18 (W.tl (P := ref22_Clean_l0_s cv 0 ([] : List T_api_Net) .nilS noBlk) (H _ _ Opt.nil))
end
section
variable (p : List T_string) (u a : Int) (q : ByteArray) (s : List T_api_Node) (e : List T_api_Link) (t : List T_api_Rule) (f : List T_string) (c : List (T_string × T_int)) (l : List T_api_Rat) (ar : D) (ag : Blk) (a3 : ByteArray) (a4 : List T_api_Node) (a5 : List T_api_Link) (a6 : List T_api_Rule) (ay : ByteArray) (az a0 : Int) (a1 : Bool) (a2 : List T71) (ac : List T_string) (z : List (T_string × T_int)) (ad : List T_api_Rat) (ae : Int)
noncomputable def step_links_l0_s (p : List T_string) (u a : Int) (q : ByteArray) (s : List T_api_Node) (e : List T_api_Link) (t : List T_api_Rule) (f : List T_string) (c : List (T_string × T_int)) (l : List T_api_Rat) (ar : D) (ag : Blk) (j : Nat → D) (jb : Nat → Blk) (vs : Nat → Nat) : Cf := cfAt Tryz.f39 [1, 1, 0, 1, 0] ⟨([j 0, j 1, .pref 2 1 0 0, j 3, .pref 4 1 0 0, j 5, .pref 6 1 0 0] ++ (J j 7 10 ++ ([(.list 1 (p.map E_string)), .int .i64 u, .int .i64 a] ++ J j 20 43))), ([jb 0, jb 1, ⟨1, false, .rows 4 [(.agg [.str q, (.list 2 (s.map E_api_Node)), (.list 6 (e.map E_api_Link)), (.list 5 (t.map E_api_Rule))])]⟩, jb 3, ⟨1, false, .rows 3 [.agg [.nilS, .nilM, .nilS]]⟩, jb 5, ⟨1, false, .rows 3 [(.agg [(.list 1 (f.map E_string)), .mref 14 1, ar])]⟩] ++ (J jb 7 7 ++ ([⟨1, false, .map (mrow E_string E_int c)⟩] ++ (J jb 15 44 ++ [ag, jb 60, jb 61, jb 62]))))⟩
def step_links_l0 : Prop := ∀ ar ag, Opt E_api_Rat 59 3 ar ag l → ∀ j jb vs, W C F 39 0 (step_links_l0_s p u a q s e t f c l ar ag j jb vs) (Ans C Tryz.f39 (.tuple [(.agg [(.list 1 (ac.map E_string)), (.mlit (mks E_string z) (mvs E_int z)), (.list 3 (ad.map E_api_Rat))]), .int .i64 ae]))
variable {p u a q s e t f c l ar ag a3 a4 a5 a6 ay az a0 a1 a2 ac z ad ae}
theorem step_links_l0_go (H : (a < u ∧ 0 ≤ a ∧ a < (p.length : Int) ∧ ∃ ai an, formed_Link_R q s e t (p.getD (a).toNat ByteArray.empty) ai an ∧ ((an = true ∧ 0 ≤ ai ∧ ai < (e.length : Int) ∧ ∃ a7 a8 aq a9 ba bb, e.getD (ai).toNat (ByteArray.empty, ByteArray.empty, ByteArray.empty, false, [], []) = (a7, a8, aq, a9, ba, bb) ∧ ∃ au ap, formed_Node_R q s e t aq au ap ∧ ((ap = true ∧ ∃ av, av = mput (p.getD (a).toNat ByteArray.empty) au c ∧ ∃ bc bd be ak al am, e.getD (ai).toNat (ByteArray.empty, ByteArray.empty, ByteArray.empty, false, [], []) = (bc, bd, be, ak, al, am) ∧ (l.length + 1 + 192) * (56 + 1) ≤ 70368744177664 ∧ ∃ af, af = l ++ [(ak, al, am)] ∧ step_links_l0 p u (wi (a + 1)) q s e t f av af ac z ad ae) ∨ ¬ ap = true ∧ ac = ([] : List T_string) ∧ z = ([] : List (T_string × T_int)) ∧ ad = ([] : List T_api_Rat) ∧ ae = 9)) ∨ ¬ an = true ∧ ac = ([] : List T_string) ∧ z = ([] : List (T_string × T_int)) ∧ ad = ([] : List T_api_Rat) ∧ ae = 9)) ∨ ¬ a < u ∧ ac = f ∧ z = c ∧ ad = l ∧ ae = 0) : step_links_l0 p u a q s e t f c l ac z ad ae := by
 intro ar ag bn j jb vs
 refine W.adv 1 (W.adv 6 ?_)
 rcases H with ⟨bf, H⟩ | ⟨bf, H⟩
 ·refine W.ct (a < u) bf ?_
  refine W.adv 6 ?_
  obtain ⟨br, bs, H⟩ := H
  refine W.opS (O.ixE E_string 1 .i64 p a ByteArray.empty (p.getD (a).toNat ByteArray.empty) br bs rfl) ?_
  refine W.adv 8 ?_
  obtain ⟨ai, an, bt, H⟩ := H
  refine W.cl 105 [(.agg [.str q, (.list 2 (s.map E_api_Node)), (.list 6 (e.map E_api_Link)), (.list 5 (t.map E_api_Rule))]), (.str (p.getD (a).toNat ByteArray.empty))] (.tuple [.int .i64 ai, .bool an]) bt ?_
  refine W.adv 14 ?_
  rcases H with ⟨bg, H⟩ | ⟨bg, H⟩
  ·refine W.cb false (!an) (congrArg (fun b => !b) bg) ?_
   refine W.adv 8 ?_
   obtain ⟨bp, bq, H⟩ := H
   obtain ⟨a7, a8, aq, a9, ba, bb, bu, H⟩ := H
   refine W.opS (O.ixE E_api_Link 6 .i64 e ai (ByteArray.empty, ByteArray.empty, ByteArray.empty, false, [], []) (a7, a8, aq, a9, ba, bb) bp bq bu) ?_
   refine W.adv 2 ?_
   obtain ⟨au, ap, bv, H⟩ := H
   refine W.cl 106 [(.agg [.str q, (.list 2 (s.map E_api_Node)), (.list 6 (e.map E_api_Link)), (.list 5 (t.map E_api_Rule))]), .str aq] (.tuple [.int .i64 au, .bool ap]) bv ?_
   refine W.adv 14 ?_
   rcases H with ⟨bi, H⟩ | ⟨bi, H⟩
   ·refine W.cb false (!ap) (congrArg (fun b => !b) bi) ?_
    refine W.adv 8 ?_
    obtain ⟨av, bw, H⟩ := H
    refine W.opH (OpIs.mu (kd := .string) (b := 14) (v := 1) (w := 1) (ek := E_string) (ev := E_int) (k := (p.getD (a).toNat ByteArray.empty)) (x := au) (L := c) (by kernel_rfl) bw rfl sameD_str) ?_
    refine W.adv 8 ?_
    obtain ⟨bc, bd, be, ak, al, am, bz, H⟩ := H
    refine W.opS (O.ixE E_api_Link 6 .i64 e ai (ByteArray.empty, ByteArray.empty, ByteArray.empty, false, [], []) (bc, bd, be, ak, al, am) bp bq bz) ?_
    refine W.adv 3 ?_
    rcases bn with ⟨rfl, bk⟩ | ⟨aa, rfl, rfl⟩
    ·subst bk
     obtain ⟨bl, H⟩ := H
     obtain ⟨af, aw, H⟩ := H
     have bm : 1 = af.length := by rw [aw] <;> rfl
     refine W.opH (O.apENil E_api_Rat (.lit (.list 3 [(.agg [.bool ak, .ints .u64 al, .ints .u64 am])])) 56 59 ag.ver 3 [(ak, al, am)] (aw.trans (List.nil_append _)) (by first | (simp; done) | (simp at bl ⊢; omega) | omega)) ?_
     exact W.adv 10 (W.tl (P := step_links_l0_s p u (wi (a + 1)) q s e t f av af (.sref 59 (ag.ver + 1) 3 0 1) (⟨(ag.ver + 1), false, .rows 3 (af.map E_api_Rat)⟩)) (H _ _ (Opt.row (w := ag.ver) (by first | rfl | omega) bm)))
    ·obtain ⟨bl, H⟩ := H
     obtain ⟨af, aw, H⟩ := H
     have bm : (l.length + 1) = af.length := by rw [aw, List.length_append] <;> rfl
     refine W.opK (O.apERow E_api_Rat (.lit (.list 3 [(.agg [.bool ak, .ints .u64 al, .ints .u64 am])])) 56 59 (aa + 1) 59 (aa + 1) l.length 3 l [(ak, al, am)] aw rfl bl) ?_
     exact W.adv 10 (W.tl (P := step_links_l0_s p u (wi (a + 1)) q s e t f av af (.sref 59 ((aa + 1) + 1) 3 0 (l.length + 1)) (⟨((aa + 1) + 1), false, .rows 3 (af.map E_api_Rat)⟩)) (H _ _ (Opt.row (w := (aa + 1)) (by first | rfl | omega) bm)))
   ·refine W.cb true (!ap) (congrArg (fun b => !b) (bfalse bi)) ?_
    exact W.adv 14 (W.fr (Ans.q (.tuple [(.agg [(.list 1 (([] : List T_string).map E_string)), (.mlit (mks E_string ([] : List (T_string × T_int))) (mvs E_int ([] : List (T_string × T_int)))), (.list 3 (([] : List T_api_Rat).map E_api_Rat))]), .int .i64 9]) (by rw [H.1, H.2.1, H.2.2.1, H.2.2.2])))
  ·refine W.cb true (!an) (congrArg (fun b => !b) (bfalse bg)) ?_
   exact W.adv 14 (W.fr (Ans.q (.tuple [(.agg [(.list 1 (([] : List T_string).map E_string)), (.mlit (mks E_string ([] : List (T_string × T_int))) (mvs E_int ([] : List (T_string × T_int)))), (.list 3 (([] : List T_api_Rat).map E_api_Rat))]), .int .i64 9]) (by rw [H.1, H.2.1, H.2.2.1, H.2.2.2])))
 ·refine W.cf (a < u) bf ?_
  refine W.adv 13 ?_
  rcases bn with ⟨rfl, bk⟩ | ⟨aa, rfl, rfl⟩
  ·subst bk
   exact W.fr (Ans.of (d := (.tuple [(.agg [(.list 1 (f.map E_string)), .mref 14 1, .nilS]), .int .i64 0])) (d' := (.tuple [(.agg [(.list 1 (f.map E_string)), (.mlit (mks E_string c) (mvs E_int c)), .nilS]), .int .i64 0])) (e' := (.tuple [(.agg [(.list 1 (f.map E_string)), (.mlit (mks E_string c) (mvs E_int c)), (.list 3 (([] : List T_api_Rat).map E_api_Rat))]), .int .i64 0])) (by kernel_rfl) ((congrArg (fun h => reify h DEPTH (.tuple [(.agg [(.list 1 (f.map E_string)), .mref 14 1, .nilS]), .int .i64 0])) (tidy_ver (b := 14) (v := 0) (fz := false) (y := .map (mrow E_string E_int c)) (by kernel_rfl))).trans (rf_tup (rf_cons (rf_agg (rf_cons (by kernel_rfl) (rf_cons (rf_map (ek := E_string) (ev := E_int) (b := 14) (v := 1) (w := 1) (fz := false) (L := c) (fun _ => rfl) (fun _ => rfl) (by kernel_rfl) rfl) (rf_cons (by kernel_rfl) rf_nil)))) (rf_cons (by kernel_rfl) rf_nil)))) (by kernel_rfl) (by rw [H.1, H.2.1, H.2.2.1, H.2.2.2]))
  ·exact W.fr (Ans.of (d := (.tuple [(.agg [(.list 1 (f.map E_string)), .mref 14 1, (.sref 59 (aa + 1) 3 0 l.length)]), .int .i64 0])) (d' := (.tuple [(.agg [(.list 1 (f.map E_string)), (.mlit (mks E_string c) (mvs E_int c)), (.list 3 (l.map E_api_Rat))]), .int .i64 0])) (e' := (.tuple [(.agg [(.list 1 (f.map E_string)), (.mlit (mks E_string c) (mvs E_int c)), (.list 3 (l.map E_api_Rat))]), .int .i64 0])) (by kernel_rfl) ((congrArg (fun h => reify h DEPTH (.tuple [(.agg [(.list 1 (f.map E_string)), .mref 14 1, (.sref 59 (aa + 1) 3 0 l.length)]), .int .i64 0])) (tidy_ver (b := 14) (v := 0) (fz := false) (y := .map (mrow E_string E_int c)) (by kernel_rfl))).trans (rf_tup (rf_cons (rf_agg (rf_cons (by kernel_rfl) (rf_cons (rf_map (ek := E_string) (ev := E_int) (b := 14) (v := 1) (w := 1) (fz := false) (L := c) (fun _ => rfl) (fun _ => rfl) (by kernel_rfl) rfl) (rf_cons (rf_fullE (enc := E_api_Rat) E_api_Rat_t (b := 59) (v := (aa + 1)) (w := (aa + 1)) (fz := false) (xs := l) (by kernel_rfl) rfl rfl) rf_nil)))) (rf_cons (by kernel_rfl) rf_nil)))) (by kernel_rfl) (by rw [H.1, H.2.1, H.2.2.1, H.2.2.2]))
theorem step_links_go (H : ∃ ab, limits_Out_R ay az a0 a1 a2 ab ∧ step_links_l0 ab (ab.length : Int) 0 a3 a4 a5 a6 ab ([] : List (T_string × T_int)) ([] : List T_api_Rat) ac z ad ae) : step_links_R a3 a4 a5 a6 ay az a0 a1 a2 ac z ad ae := by
 refine W.ii Tryz.func39 ?_
 refine W.adv 11 ?_
 obtain ⟨ab, b0, H⟩ := H
 refine W.cl 104 [(.agg [.str ay, .int .u32 az, .int .i64 a0, .bool a1, (.list 1 (a2.map E71))])] (.list 1 (ab.map E_string)) b0 ?_
 refine W.adv 11 (W.opS (O.ln ab E_string) ?_)
 exact W.adv 4 (W.tl (P := step_links_l0_s ab (ab.length : Int) 0 a3 a4 a5 a6 ab ([] : List (T_string × T_int)) ([] : List T_api_Rat) .nilS noBlk) (H _ _ Opt.nil))
end
theorem step_light_go {c : ByteArray} {e f : Int} {i : Bool} {b : List T71} {z : Bool} (H : ∃ a, slices_ContainsFunc_____api_Hop___api_Hop__v0_R b a ∧ (z = a)) : step_light_R c e f i b z := by
 refine W.ii Tryz.func41 ?_
 refine W.adv 10 ?_
 obtain ⟨a, k, H⟩ := H
 refine W.cl 109 [(.list 1 (b.map E71)), .fn 110 [] []] (.bool a) k ?_
 exact W.adv 4 (W.fr (Ans.o (.bool a) (by rw [H])))
theorem ref22_short_go {a z : ByteArray} (H : 0 ≤ (mn (a.size : Int) 20) ∧ (mn (a.size : Int) 20) ≤ (a.size : Int) ∧ (z = (a.extract 0 (mn (a.size : Int) 20).toNat))) : ref22_short_R a z := by
 refine W.ii Tryz.func58 ?_
 refine W.adv 11 ?_
 obtain ⟨b, c, H⟩ := H
 refine W.opS (OpIs.slT_hi (k' := .i64) (s := a) (i := (mn (a.size : Int) 20)) (by kernel_rfl) b c) ?_
 exact W.adv 4 (W.fr (Ans.o (.str (a.extract 0 (mn (a.size : Int) 20).toNat)) (by rw [H])))
theorem step_light_1_go {b : List T_api_Hop} {z : Bool} (H : ∃ a, slices_ContainsFunc___api_Hop_api_Hop__v0_R b a ∧ (z = a)) : step_light_1_R b z := by
 refine W.ii Tryz.func110 ?_
 refine W.adv 8 ?_
 obtain ⟨a, c, H⟩ := H
 refine W.cl 62 [(.list 2 (b.map E_api_Hop)), .fn 111 [] []] (.bool a) c ?_
 exact W.adv 4 (W.fr (Ans.o (.bool a) (by rw [H])))
theorem step_light_1_1_go {b : ByteArray} {a : Int} {z : Bool} (H : (z = (decide (a < 1)))) : step_light_1_1_R b a z := by
 refine W.ii Tryz.func111 ?_
 exact W.adv 15 (W.fr (Ans.o (.bool (decide (a < 1))) (by rw [H])))
section
variable (l : Int) (p : Bool) (q t : List Int) (u : List T_string) (e : List (T_string × T_int)) (z : List T_api_Rat) (aa : List T_api_Hop) (f c : Int) (af : List T_api_Hop) (al : List Int) (ap aq : Nat) (ba : ByteArray) (bb bc : Int) (bd : Bool) (am : List T71) (a0 : Int) (a1 : Bool) (a2 a3 : List Int) (a4 : List T_string) (an : List (T_string × T_int)) (a5 : List T_api_Rat) (ad : List T_api_Hop) (ae : List T_api_Rat)
noncomputable def step_Shares_v1_l0_s (j : Nat → D) (jb : Nat → Blk) (vs : Nat → Nat) : Cf := cfAt Tryz.f19 [1, 1, 1, 1, 1, 0, 1, 0] ⟨([j 0, (.fn 42 [] [(.ptr [.int .u64 l, .bool p, .ints .u64 q, .ints .u64 t]), (.ptr [(.list 1 (u.map E_string)), (.mlit (mks E_string e) (mvs E_int e)), (.list 3 (z.map E_api_Rat))])])] ++ (J j 2 5 ++ ([.nilS, .nilS] ++ (J j 9 13 ++ ([(.list 2 (aa.map E_api_Hop)), .int .i64 f, .int .i64 c] ++ J j 25 30))))), (J jb 0 55)⟩
def step_Shares_v1_l0 : Prop := ∀ j jb vs, W C F 19 0 (step_Shares_v1_l0_s l p q t u e z aa f c  j jb vs) (Ans C Tryz.f19 (.tuple [(.list 2 (ad.map E_api_Hop)), (.list 3 (ae.map E_api_Rat))]))
noncomputable def step_Shares_v1_l1_s (j : Nat → D) (jb : Nat → Blk) (vs : Nat → Nat) : Cf := cfAt Tryz.f19 [1, 1, 1, 1, 1, 0, 1, 0] ⟨([j 0, (.fn 42 [] [(.ptr [.int .u64 l, .bool p, .ints .u64 q, .ints .u64 t]), (.ptr [(.list 1 (u.map E_string)), (.mlit (mks E_string e) (mvs E_int e)), (.list 3 (z.map E_api_Rat))])])] ++ (J j 2 5 ++ ([(.sref 39 ((vs 39) + 1) 2 0 ap), (.sref 44 ((vs 44) + 1) 1 0 aq)] ++ (J j 9 13 ++ ([(.list 2 (aa.map E_api_Hop)), .int .i64 f, .int .i64 c] ++ J j 25 30))))), (J jb 0 39 ++ ([⟨((vs 39) + 1), false, .rows 2 (af.map E_api_Hop)⟩] ++ (J jb 40 4 ++ ([⟨((vs 44) + 1), false, .ints .i64 al⟩] ++ J jb 45 10))))⟩
def step_Shares_v1_l1 : Prop := ∀ ap, ap = af.length → ∀ aq, aq = al.length → ∀ j jb vs, W C F 19 0 (step_Shares_v1_l1_s l p q t u e z aa f c af al ap aq j jb vs) (Ans C Tryz.f19 (.tuple [(.list 2 (ad.map E_api_Hop)), (.list 3 (ae.map E_api_Rat))]))
variable {l p q t u e z aa f c af al ap aq ba bb bc bd am a0 a1 a2 a3 a4 an a5 ad ae}
theorem step_Shares_v1_l0_go (H : (c < f ∧ 0 ≤ c ∧ c < (aa.length : Int) ∧ ∃ ag ab, aa.getD (c).toNat (ByteArray.empty, 0) = (ag, ab) ∧ ∃ au, step_Of_1_v0_R ag l p q t u e z au ∧ (au = true ∧ (ab < 1 ∧ ad = ([] : List T_api_Hop) ∧ ae = ([] : List T_api_Rat) ∨ ¬ ab < 1 ∧ (1 + 192) * (24 + 1) ≤ 70368744177664 ∧ ∃ a6, a6 = [(ag, ab)] ∧ (1 + 192) * (8 + 1) ≤ 70368744177664 ∧ ∃ a7, a7 = [ab] ∧ step_Shares_v1_l1 l p q t u e z aa f (wi (c + 1)) a6 a7 ad ae) ∨ ¬ au = true ∧ step_Shares_v1_l0 l p q t u e z aa f (wi (c + 1)) ad ae)) ∨ ¬ c < f ∧ ∃ av aw, fold_Shares_R [] av aw ∧ (aw = 0 ∧ ad = ([] : List T_api_Hop) ∧ ae = av ∨ ¬ aw = 0 ∧ ad = ([] : List T_api_Hop) ∧ ae = ([] : List T_api_Rat))) : step_Shares_v1_l0 l p q t u e z aa f c ad ae := by
 intro j jb vs
 refine W.adv 1 (W.adv 6 ?_)
 rcases H with ⟨be, H⟩ | ⟨be, H⟩
 ·refine W.ct (c < f) be ?_
  refine W.adv 6 ?_
  obtain ⟨bw, bz, H⟩ := H
  obtain ⟨ag, ab, b0, H⟩ := H
  refine W.opS (O.ixE E_api_Hop 2 .i64 aa c (ByteArray.empty, 0) (ag, ab) bw bz b0) ?_
  refine W.adv 2 (W.opH (O.stV 10 ((jb 10).ver + 1) 0 0 2 2 [(.agg [.str ⟨#[]⟩, .int .i64 0])] [(.agg [.str ag, .int .i64 ab])] (.agg [.str ⟨#[]⟩, .int .i64 0]) (.agg [.str ag, .int .i64 ab])) ?_)
  refine W.adv 7 (W.opS (O.ldV 10 ((jb 10).ver + 1) 0 0 2 1 false false [(.agg [.str ag, .int .i64 ab])] (.str ag)) ?_)
  obtain ⟨au, b1, H⟩ := H
  refine W.cl 42 [.str ag, (.ptr [.int .u64 l, .bool p, .ints .u64 q, .ints .u64 t]), (.ptr [(.list 1 (u.map E_string)), (.mlit (mks E_string e) (mvs E_int e)), (.list 3 (z.map E_api_Rat))])] (.bool au) b1 ?_
  refine W.adv 3 ?_
  rcases H with ⟨bf, H⟩ | ⟨bf, H⟩
  ·refine W.cb false (!au) (congrArg (fun b => !b) bf) ?_
   refine W.adv 6 (W.opS (O.ldV 10 ((jb 10).ver + 1) 0 1 2 1 false false [(.agg [.str ag, .int .i64 ab])] (.int .i64 ab)) ?_)
   refine W.adv 3 ?_
   rcases H with ⟨bg, H⟩ | ⟨bg, H⟩
   ·refine W.ct (ab < 1) bg ?_
    exact W.adv 13 (W.fr (Ans.q (.tuple [(.list 2 (([] : List T_api_Hop).map E_api_Hop)), (.list 3 (([] : List T_api_Rat).map E_api_Rat))]) (by rw [H.1, H.2])))
   ·refine W.cf (ab < 1) bg ?_
    refine W.adv 4 (W.opS (O.ldV 10 ((jb 10).ver + 1) 0 0 2 2 false true [(.agg [.str ag, .int .i64 ab])] (.agg [.str ag, .int .i64 ab])) ?_)
    refine W.adv 1 ?_
    obtain ⟨b2, H⟩ := H
    obtain ⟨a6, bs, H⟩ := H
    have b3 : 1 = a6.length := by rw [bs] <;> rfl
    refine W.opH (O.apENil E_api_Hop (.lit (.list 2 [(.agg [.str ag, .int .i64 ab])])) 24 39 ((jb 39).ver) 2 [(ag, ab)] bs b2) ?_
    refine W.adv 2 (W.opS (O.ldV 10 ((jb 10).ver + 1) 0 1 2 1 false false [(.agg [.str ag, .int .i64 ab])] (.int .i64 ab)) ?_)
    refine W.adv 1 ?_
    obtain ⟨b4, H⟩ := H
    obtain ⟨a7, bt, H⟩ := H
    have b5 : 1 = a7.length := by rw [bt] <;> rfl
    refine W.opH (O.apNil (.lit (.ints .i64 [ab])) 8 44 ((jb 44).ver) .i64 [ab] bt b4) ?_
    exact W.adv 10 (W.tl (H _ b3 _ b5))
  ·refine W.cb true (!au) (congrArg (fun b => !b) (bfalse bf)) ?_
   exact W.adv 9 (W.tl H)
 ·refine W.cf (c < f) be ?_
  refine W.adv 8 ?_
  obtain ⟨av, aw, b6, H⟩ := H
  refine W.cl 59 [.nilS] (.tuple [(.list 3 (av.map E_api_Rat)), .int .i64 aw]) b6 ?_
  refine W.adv 14 ?_
  rcases H with ⟨bi, H⟩ | ⟨bi, H⟩
  ·refine W.cb false (!(decide (aw = 0))) (congrArg (fun b => !b) (decide_eq_true bi)) ?_
   exact W.adv 11 (W.fr (Ans.q (.tuple [(.list 2 (([] : List T_api_Hop).map E_api_Hop)), (.list 3 (av.map E_api_Rat))]) (by rw [H.1, H.2])))
  ·refine W.cb true (!(decide (aw = 0))) (congrArg (fun b => !b) (decide_eq_false bi)) ?_
   exact W.adv 8 (W.fr (Ans.q (.tuple [(.list 2 (([] : List T_api_Hop).map E_api_Hop)), (.list 3 (([] : List T_api_Rat).map E_api_Rat))]) (by rw [H.1, H.2])))
theorem step_Shares_v1_l1_go (H : (c < f ∧ 0 ≤ c ∧ c < (aa.length : Int) ∧ ∃ ai ac, aa.getD (c).toNat (ByteArray.empty, 0) = (ai, ac) ∧ ∃ ay, step_Of_1_v0_R ai l p q t u e z ay ∧ (ay = true ∧ (ac < 1 ∧ ad = ([] : List T_api_Hop) ∧ ae = ([] : List T_api_Rat) ∨ ¬ ac < 1 ∧ (af.length + 1 + 192) * (24 + 1) ≤ 70368744177664 ∧ ∃ a8, a8 = af ++ [(ai, ac)] ∧ (al.length + 1 + 192) * (8 + 1) ≤ 70368744177664 ∧ ∃ a9, a9 = al ++ [ac] ∧ step_Shares_v1_l1 l p q t u e z aa f (wi (c + 1)) a8 a9 ad ae) ∨ ¬ ay = true ∧ step_Shares_v1_l1 l p q t u e z aa f (wi (c + 1)) af al ad ae)) ∨ ¬ c < f ∧ ∃ ar az, fold_Shares_R al ar az ∧ (az = 0 ∧ ad = af ∧ ae = ar ∨ ¬ az = 0 ∧ ad = ([] : List T_api_Hop) ∧ ae = ([] : List T_api_Rat))) : step_Shares_v1_l1 l p q t u e z aa f c af al ad ae := by
 intro ap bk aq bl j jb vs
 refine W.adv 1 (W.adv 6 ?_)
 rcases H with ⟨bm, H⟩ | ⟨bm, H⟩
 ·refine W.ct (c < f) bm ?_
  refine W.adv 6 ?_
  obtain ⟨b7, b8, H⟩ := H
  obtain ⟨ai, ac, b9, H⟩ := H
  refine W.opS (O.ixE E_api_Hop 2 .i64 aa c (ByteArray.empty, 0) (ai, ac) b7 b8 b9) ?_
  refine W.adv 2 (W.opH (O.stV 10 ((jb 10).ver + 1) 0 0 2 2 [(.agg [.str ⟨#[]⟩, .int .i64 0])] [(.agg [.str ai, .int .i64 ac])] (.agg [.str ⟨#[]⟩, .int .i64 0]) (.agg [.str ai, .int .i64 ac])) ?_)
  refine W.adv 7 (W.opS (O.ldV 10 ((jb 10).ver + 1) 0 0 2 1 false false [(.agg [.str ai, .int .i64 ac])] (.str ai)) ?_)
  obtain ⟨ay, ca, H⟩ := H
  refine W.cl 42 [.str ai, (.ptr [.int .u64 l, .bool p, .ints .u64 q, .ints .u64 t]), (.ptr [(.list 1 (u.map E_string)), (.mlit (mks E_string e) (mvs E_int e)), (.list 3 (z.map E_api_Rat))])] (.bool ay) ca ?_
  refine W.adv 3 ?_
  rcases H with ⟨bn, H⟩ | ⟨bn, H⟩
  ·refine W.cb false (!ay) (congrArg (fun b => !b) bn) ?_
   refine W.adv 6 (W.opS (O.ldV 10 ((jb 10).ver + 1) 0 1 2 1 false false [(.agg [.str ai, .int .i64 ac])] (.int .i64 ac)) ?_)
   refine W.adv 3 ?_
   rcases H with ⟨bp, H⟩ | ⟨bp, H⟩
   ·refine W.ct (ac < 1) bp ?_
    exact W.adv 13 (W.fr (Ans.q (.tuple [(.list 2 (([] : List T_api_Hop).map E_api_Hop)), (.list 3 (([] : List T_api_Rat).map E_api_Rat))]) (by rw [H.1, H.2])))
   ·refine W.cf (ac < 1) bp ?_
    refine W.adv 4 (W.opS (O.ldV 10 ((jb 10).ver + 1) 0 0 2 2 false true [(.agg [.str ai, .int .i64 ac])] (.agg [.str ai, .int .i64 ac])) ?_)
    refine W.adv 1 ?_
    obtain ⟨cc, H⟩ := H
    obtain ⟨a8, bu, H⟩ := H
    have cd : (af.length + 1) = a8.length := by rw [bu, List.length_append] <;> rfl
    refine W.opK (O.apERow E_api_Hop (.lit (.list 2 [(.agg [.str ai, .int .i64 ac])])) 24 39 ((vs 39) + 1) 39 ((vs 39) + 1) ap 2 af [(ai, ac)] bu bk cc) ?_
    refine W.adv 2 (W.opS (O.ldV 10 ((jb 10).ver + 1) 0 1 2 1 false false [(.agg [.str ai, .int .i64 ac])] (.int .i64 ac)) ?_)
    refine W.adv 1 ?_
    obtain ⟨ce, H⟩ := H
    obtain ⟨a9, bv, H⟩ := H
    have cf : (al.length + 1) = a9.length := by rw [bv, List.length_append] <;> rfl
    refine W.opK (O.apRow (.lit (.ints .i64 [ac])) 8 44 ((vs 44) + 1) 44 ((vs 44) + 1) aq .i64 al [ac] bv bl ce) ?_
    exact W.adv 10 (W.tl (H _ cd _ cf))
  ·refine W.cb true (!ay) (congrArg (fun b => !b) (bfalse bn)) ?_
   exact W.adv 9 (W.tl (H _ bk _ bl))
 ·refine W.cf (c < f) bm ?_
  refine W.adv 8 ?_
  obtain ⟨ar, az, cg, H⟩ := H
  refine W.callR (g := 59) (ds := [(.sref 44 ((vs 44) + 1) 1 0 aq)]) (es := [.ints .i64 al]) (r := (.tuple [(.list 3 (ar.map E_api_Rat)), .int .i64 az])) (by kernel_rfl) (rf_cons (rf_full (b := 44) (v := ((vs 44) + 1)) (w := ((vs 44) + 1)) (fz := false) (k := .i64) (xs := al) (by kernel_rfl) rfl bl) rf_nil) (Ic.args cg (by kernel_rfl)) (by kernel_rfl) ?_
  refine W.adv 14 ?_
  rcases H with ⟨bq, H⟩ | ⟨bq, H⟩
  ·refine W.cb false (!(decide (az = 0))) (congrArg (fun b => !b) (decide_eq_true bq)) ?_
   exact W.adv 11 (W.fr (Ans.of (d := (.tuple [(.sref 39 ((vs 39) + 1) 2 0 ap), (.list 3 (ar.map E_api_Rat))])) (d' := (.tuple [(.list 2 (af.map E_api_Hop)), (.list 3 (ar.map E_api_Rat))])) (e' := (.tuple [(.list 2 (af.map E_api_Hop)), (.list 3 (ar.map E_api_Rat))])) (by kernel_rfl) ((congrArg (fun h => reify h DEPTH (.tuple [(.sref 39 ((vs 39) + 1) 2 0 ap), (.list 3 (ar.map E_api_Rat))])) (tidy_ver (b := 39) (v := (vs 39)) (fz := false) (y := .rows 2 (af.map E_api_Hop)) (by kernel_rfl))).trans (rf_tup (rf_cons (rf_fullE (enc := E_api_Hop) E_api_Hop_t (b := 39) (v := ((vs 39) + 1)) (w := ((vs 39) + 1)) (fz := false) (xs := af) (by kernel_rfl) rfl bk) (rf_cons (by kernel_rfl) rf_nil)))) (by kernel_rfl) (by rw [H.1, H.2])))
  ·refine W.cb true (!(decide (az = 0))) (congrArg (fun b => !b) (decide_eq_false bq)) ?_
   exact W.adv 8 (W.fr (Ans.q (.tuple [(.list 2 (([] : List T_api_Hop).map E_api_Hop)), (.list 3 (([] : List T_api_Rat).map E_api_Rat))]) (by rw [H.1, H.2])))
theorem step_Shares_v1_go (H : ∃ ak, step_Group_v1_R ba bb bc bd am a0 a1 a2 a3 a4 an a5 ak ∧ (ak < 0 ∧ ad = ([] : List T_api_Hop) ∧ ae = ([] : List T_api_Rat) ∨ ¬ ak < 0 ∧ 0 ≤ ak ∧ ak < (am.length : Int) ∧ step_Shares_v1_l0 a0 a1 a2 a3 a4 an a5 (am.getD (ak).toNat []) ((am.getD (ak).toNat []).length : Int) 0 ad ae)) : step_Shares_v1_R ba bb bc bd am a0 a1 a2 a3 a4 an a5 ad ae := by
 refine W.ii Tryz.func19 ?_
 refine W.adv 11 ?_
 obtain ⟨ak, ci, H⟩ := H
 refine W.cl 21 [(.agg [.str ba, .int .u32 bb, .int .i64 bc, .bool bd, (.list 1 (am.map E71))]), (.fn 42 [] [(.ptr [.int .u64 a0, .bool a1, .ints .u64 a2, .ints .u64 a3]), (.ptr [(.list 1 (a4.map E_string)), (.mlit (mks E_string an) (mvs E_int an)), (.list 3 (a5.map E_api_Rat))])])] (.int .i64 ak) ci ?_
 refine W.adv 10 ?_
 rcases H with ⟨br, H⟩ | ⟨br, H⟩
 ·refine W.ct (ak < 0) br ?_
  exact W.adv 8 (W.fr (Ans.q (.tuple [(.list 2 (([] : List T_api_Hop).map E_api_Hop)), (.list 3 (([] : List T_api_Rat).map E_api_Rat))]) (by rw [H.1, H.2])))
 ·refine W.cf (ak < 0) br ?_
  refine W.adv 18 ?_
  obtain ⟨ck, cl, H⟩ := H
  refine W.opS (O.ixE E71 1 .i64 am ak [] (am.getD (ak).toNat []) ck cl rfl) ?_
  refine W.adv 1 (W.opS (O.ln (am.getD (ak).toNat []) E_api_Hop) ?_)
  exact W.adv 4 (W.tl (P := step_Shares_v1_l0_s a0 a1 a2 a3 a4 an a5 (am.getD (ak).toNat []) ((am.getD (ak).toNat []).length : Int) 0) H)
end
theorem step_Group_v1_go {n : ByteArray} {p q : Int} {s : Bool} {c : List T71} {e : Int} {f : Bool} {i k : List Int} {l : List T_string} {b : List (T_string × T_int)} {m : List T_api_Rat} {z : Int} (H : ∃ a, slices_IndexFunc_____api_Hop___api_Hop__v2_R c e f i k l b m a ∧ (z = a)) : step_Group_v1_R n p q s c e f i k l b m z := by
 refine W.ii Tryz.func21 ?_
 refine W.adv 12 ?_
 obtain ⟨a, t, H⟩ := H
 refine W.callR (g := 60) (ds := [(.list 1 (c.map E71)), (.fn 61 [] [.pref 3 1 0 0])]) (es := [(.list 1 (c.map E71)), (.fn 61 [] [(.ptr [(.fn 42 [] [(.ptr [.int .u64 e, .bool f, .ints .u64 i, .ints .u64 k]), (.ptr [(.list 1 (l.map E_string)), (.mlit (mks E_string b) (mvs E_int b)), (.list 3 (m.map E_api_Rat))])])])])]) (r := (.int .i64 a)) (by kernel_rfl) (rf_cons (by kernel_rfl) (rf_cons (rf_fn rf_nil (rf_cons (by kernel_rfl) rf_nil)) rf_nil)) (Ic.args t (by kernel_rfl)) (by kernel_rfl) ?_
 exact W.adv 4 (W.fr (Ans.o (.int .i64 a) (by rw [H])))
theorem step_Group_1_v1_go {c : List T_api_Hop} {e : Int} {f : Bool} {i k : List Int} {l : List T_string} {a : List (T_string × T_int)} {m : List T_api_Rat} {z : Bool} (H : ∃ b, slices_ContainsFunc___api_Hop_api_Hop__v2_R c e f i k l a m b ∧ (z = b)) : step_Group_1_v1_R c e f i k l a m z := by
 refine W.ii Tryz.func61 ?_
 refine W.adv 9 ?_
 obtain ⟨b, n, H⟩ := H
 refine W.cl 62 [(.list 2 (c.map E_api_Hop)), (.fn 63 [] [(.ptr [(.fn 42 [] [(.ptr [.int .u64 e, .bool f, .ints .u64 i, .ints .u64 k]), (.ptr [(.list 1 (l.map E_string)), (.mlit (mks E_string a) (mvs E_int a)), (.list 3 (m.map E_api_Rat))])])])])] (.bool b) n ?_
 exact W.adv 4 (W.fr (Ans.o (.bool b) (by rw [H])))
theorem step_Group_1_1_v1_go {c : ByteArray} {n e : Int} {f : Bool} {i k : List Int} {l : List T_string} {a : List (T_string × T_int)} {m : List T_api_Rat} {z : Bool} (H : ∃ b, step_Of_1_v0_R c e f i k l a m b ∧ (z = b)) : step_Group_1_1_v1_R c n e f i k l a m z := by
 refine W.ii Tryz.func63 ?_
 refine W.adv 11 ?_
 obtain ⟨b, p, H⟩ := H
 refine W.cl 42 [.str c, (.ptr [.int .u64 e, .bool f, .ints .u64 i, .ints .u64 k]), (.ptr [(.list 1 (l.map E_string)), (.mlit (mks E_string a) (mvs E_int a)), (.list 3 (m.map E_api_Rat))])] (.bool b) p ?_
 exact W.adv 4 (W.fr (Ans.o (.bool b) (by rw [H])))
end Go.Proofs.YtjcdkemnflmfiaaGreatA
