/- Walks through the functions: what makes each relation true. -/
import Derived.Test.YtlpbmajbalenjaaW0
set_option linter.unusedVariables false
set_option maxRecDepth 100000
namespace Go.Proofs.YtlpbmajbalenjaaA
open Go Go.Proofs
section
variable (c : ByteArray) (f a e : Int) (u : List T_ref19_Token) (ab : Nat) (z : List T_ref19_Token) (ac : Nat) (aa : List T_ref19_Token) (ad : Nat) (cq : ByteArray) (l : List T_ref19_Token) (p q : Int)
noncomputable def ref19_All_l0_s (j : Nat → D) (jb : Nat → Blk) (vs : Nat → Nat) : Cf := cfAt Try.f14 [1, 1, 1, 0, 0] ⟨([.str c] ++ (J j 1 4 ++ ([.nilS, .int .i64 f, .int .i64 a] ++ J j 8 133))), (J jb 0 141)⟩
def ref19_All_l0 : Prop := ∀ j jb vs, W C F 14 0 (ref19_All_l0_s c f a  j jb vs) (Ans C Try.f14 (.tuple [(.list 3 (l.map E_ref19_Token)), .int .i64 p, .int .i64 q]))
noncomputable def ref19_All_l1_s (j : Nat → D) (jb : Nat → Blk) (vs : Nat → Nat) : Cf := cfAt Try.f14 [1, 1, 1, 0, 0, 0, 1, 0, 1, 1, 0, 0, 1, 1, 1, 1, 1, 0, 0] ⟨([.str c] ++ (J j 1 4 ++ ([.nilS, .int .i64 f, .int .i64 a, j 8, .int .i64 e] ++ J j 10 131))), (J jb 0 141)⟩
def ref19_All_l1 : Prop := ∀ j jb vs, W C F 14 0 (ref19_All_l1_s c f a e  j jb vs) (Ans C Try.f14 (.tuple [(.list 3 (l.map E_ref19_Token)), .int .i64 p, .int .i64 q]))
noncomputable def ref19_All_l2_s (j : Nat → D) (jb : Nat → Blk) (vs : Nat → Nat) : Cf := cfAt Try.f14 [1, 1, 1, 0, 0] ⟨([.str c] ++ (J j 1 4 ++ ([(.sref 62 ((vs 62) + 1) 3 0 ab), .int .i64 f, .int .i64 a] ++ J j 8 133))), (J jb 0 62 ++ ([⟨((vs 62) + 1), false, .rows 3 (u.map E_ref19_Token)⟩] ++ J jb 63 78))⟩
def ref19_All_l2 : Prop := ∀ ab, ab = u.length → ∀ j jb vs, W C F 14 0 (ref19_All_l2_s c f a u ab j jb vs) (Ans C Try.f14 (.tuple [(.list 3 (l.map E_ref19_Token)), .int .i64 p, .int .i64 q]))
noncomputable def ref19_All_l3_s (j : Nat → D) (jb : Nat → Blk) (vs : Nat → Nat) : Cf := cfAt Try.f14 [1, 1, 1, 0, 0, 0, 1, 0, 1, 1, 0, 0, 1, 1, 1, 1, 1, 1, 1, 1, 1, 0, 0, 0] ⟨([.str c] ++ (J j 1 4 ++ ([.nilS, .int .i64 f, .int .i64 a, j 8, .int .i64 e] ++ J j 10 131))), (J jb 0 141)⟩
def ref19_All_l3 : Prop := ∀ j jb vs, W C F 14 0 (ref19_All_l3_s c f a e  j jb vs) (Ans C Try.f14 (.tuple [(.list 3 (l.map E_ref19_Token)), .int .i64 p, .int .i64 q]))
noncomputable def ref19_All_l4_s (j : Nat → D) (jb : Nat → Blk) (vs : Nat → Nat) : Cf := cfAt Try.f14 [1, 1, 1, 0, 0, 0, 1, 0, 1, 1, 0, 0, 1, 1, 1, 1, 1, 1, 1, 1, 1, 1, 1, 0, 0, 0] ⟨([.str c] ++ (J j 1 4 ++ ([.nilS, .int .i64 f, .int .i64 a, j 8, .int .i64 e] ++ J j 10 131))), (J jb 0 141)⟩
def ref19_All_l4 : Prop := ∀ j jb vs, W C F 14 0 (ref19_All_l4_s c f a e  j jb vs) (Ans C Try.f14 (.tuple [(.list 3 (l.map E_ref19_Token)), .int .i64 p, .int .i64 q]))
noncomputable def ref19_All_l5_s (j : Nat → D) (jb : Nat → Blk) (vs : Nat → Nat) : Cf := cfAt Try.f14 [1, 1, 1, 0, 0, 0, 1, 0, 1, 1, 0, 0, 1, 1, 1, 1, 1, 0, 0] ⟨([.str c] ++ (J j 1 4 ++ ([(.sref 62 ((vs 62) + 1) 3 0 ab), .int .i64 f, .int .i64 a, j 8, .int .i64 e] ++ J j 10 131))), (J jb 0 62 ++ ([⟨((vs 62) + 1), false, .rows 3 (u.map E_ref19_Token)⟩] ++ J jb 63 78))⟩
def ref19_All_l5 : Prop := ∀ ab, ab = u.length → ∀ j jb vs, W C F 14 0 (ref19_All_l5_s c f a e u ab j jb vs) (Ans C Try.f14 (.tuple [(.list 3 (l.map E_ref19_Token)), .int .i64 p, .int .i64 q]))
noncomputable def ref19_All_l6_s (j : Nat → D) (jb : Nat → Blk) (vs : Nat → Nat) : Cf := cfAt Try.f14 [1, 1, 1, 0, 0, 0, 1, 0, 1, 1, 0, 0, 1, 1, 1, 1, 1, 1, 1, 1, 1, 0, 0, 0] ⟨([.str c] ++ (J j 1 4 ++ ([(.sref 62 ((vs 62) + 1) 3 0 ab), .int .i64 f, .int .i64 a, j 8, .int .i64 e] ++ J j 10 131))), (J jb 0 62 ++ ([⟨((vs 62) + 1), false, .rows 3 (u.map E_ref19_Token)⟩] ++ J jb 63 78))⟩
def ref19_All_l6 : Prop := ∀ ab, ab = u.length → ∀ j jb vs, W C F 14 0 (ref19_All_l6_s c f a e u ab j jb vs) (Ans C Try.f14 (.tuple [(.list 3 (l.map E_ref19_Token)), .int .i64 p, .int .i64 q]))
noncomputable def ref19_All_l7_s (j : Nat → D) (jb : Nat → Blk) (vs : Nat → Nat) : Cf := cfAt Try.f14 [1, 1, 1, 0, 0, 0, 1, 0, 1, 1, 0, 0, 1, 1, 1, 1, 1, 1, 1, 1, 1, 1, 1, 0, 0, 0] ⟨([.str c] ++ (J j 1 4 ++ ([(.sref 62 ((vs 62) + 1) 3 0 ab), .int .i64 f, .int .i64 a, j 8, .int .i64 e] ++ J j 10 131))), (J jb 0 62 ++ ([⟨((vs 62) + 1), false, .rows 3 (u.map E_ref19_Token)⟩] ++ J jb 63 78))⟩
def ref19_All_l7 : Prop := ∀ ab, ab = u.length → ∀ j jb vs, W C F 14 0 (ref19_All_l7_s c f a e u ab j jb vs) (Ans C Try.f14 (.tuple [(.list 3 (l.map E_ref19_Token)), .int .i64 p, .int .i64 q]))
noncomputable def ref19_All_l8_s (j : Nat → D) (jb : Nat → Blk) (vs : Nat → Nat) : Cf := cfAt Try.f14 [1, 1, 1, 0, 0] ⟨([.str c] ++ (J j 1 4 ++ ([(.sref 96 ((vs 96) + 1) 3 0 ac), .int .i64 f, .int .i64 a] ++ J j 8 133))), (J jb 0 96 ++ ([⟨((vs 96) + 1), false, .rows 3 (z.map E_ref19_Token)⟩] ++ J jb 97 44))⟩
def ref19_All_l8 : Prop := ∀ ac, ac = z.length → ∀ j jb vs, W C F 14 0 (ref19_All_l8_s c f a z ac j jb vs) (Ans C Try.f14 (.tuple [(.list 3 (l.map E_ref19_Token)), .int .i64 p, .int .i64 q]))
noncomputable def ref19_All_l9_s (j : Nat → D) (jb : Nat → Blk) (vs : Nat → Nat) : Cf := cfAt Try.f14 [1, 1, 1, 0, 0] ⟨([.str c] ++ (J j 1 4 ++ ([(.sref 135 ((vs 135) + 1) 3 0 ad), .int .i64 f, .int .i64 a] ++ J j 8 133))), (J jb 0 135 ++ ([⟨((vs 135) + 1), false, .rows 3 (aa.map E_ref19_Token)⟩] ++ J jb 136 5))⟩
def ref19_All_l9 : Prop := ∀ ad, ad = aa.length → ∀ j jb vs, W C F 14 0 (ref19_All_l9_s c f a aa ad j jb vs) (Ans C Try.f14 (.tuple [(.list 3 (l.map E_ref19_Token)), .int .i64 p, .int .i64 q]))
noncomputable def ref19_All_l10_s (j : Nat → D) (jb : Nat → Blk) (vs : Nat → Nat) : Cf := cfAt Try.f14 [1, 1, 1, 0, 0, 0, 1, 0, 1, 1, 0, 0, 1, 1, 1, 1, 1, 0, 0] ⟨([.str c] ++ (J j 1 4 ++ ([(.sref 96 ((vs 96) + 1) 3 0 ac), .int .i64 f, .int .i64 a, j 8, .int .i64 e] ++ J j 10 131))), (J jb 0 96 ++ ([⟨((vs 96) + 1), false, .rows 3 (z.map E_ref19_Token)⟩] ++ J jb 97 44))⟩
def ref19_All_l10 : Prop := ∀ ac, ac = z.length → ∀ j jb vs, W C F 14 0 (ref19_All_l10_s c f a e z ac j jb vs) (Ans C Try.f14 (.tuple [(.list 3 (l.map E_ref19_Token)), .int .i64 p, .int .i64 q]))
noncomputable def ref19_All_l11_s (j : Nat → D) (jb : Nat → Blk) (vs : Nat → Nat) : Cf := cfAt Try.f14 [1, 1, 1, 0, 0, 0, 1, 0, 1, 1, 0, 0, 1, 1, 1, 1, 1, 1, 1, 1, 1, 0, 0, 0] ⟨([.str c] ++ (J j 1 4 ++ ([(.sref 96 ((vs 96) + 1) 3 0 ac), .int .i64 f, .int .i64 a, j 8, .int .i64 e] ++ J j 10 131))), (J jb 0 96 ++ ([⟨((vs 96) + 1), false, .rows 3 (z.map E_ref19_Token)⟩] ++ J jb 97 44))⟩
def ref19_All_l11 : Prop := ∀ ac, ac = z.length → ∀ j jb vs, W C F 14 0 (ref19_All_l11_s c f a e z ac j jb vs) (Ans C Try.f14 (.tuple [(.list 3 (l.map E_ref19_Token)), .int .i64 p, .int .i64 q]))
noncomputable def ref19_All_l12_s (j : Nat → D) (jb : Nat → Blk) (vs : Nat → Nat) : Cf := cfAt Try.f14 [1, 1, 1, 0, 0, 0, 1, 0, 1, 1, 0, 0, 1, 1, 1, 1, 1, 1, 1, 1, 1, 1, 1, 0, 0, 0] ⟨([.str c] ++ (J j 1 4 ++ ([(.sref 96 ((vs 96) + 1) 3 0 ac), .int .i64 f, .int .i64 a, j 8, .int .i64 e] ++ J j 10 131))), (J jb 0 96 ++ ([⟨((vs 96) + 1), false, .rows 3 (z.map E_ref19_Token)⟩] ++ J jb 97 44))⟩
def ref19_All_l12 : Prop := ∀ ac, ac = z.length → ∀ j jb vs, W C F 14 0 (ref19_All_l12_s c f a e z ac j jb vs) (Ans C Try.f14 (.tuple [(.list 3 (l.map E_ref19_Token)), .int .i64 p, .int .i64 q]))
noncomputable def ref19_All_l13_s (j : Nat → D) (jb : Nat → Blk) (vs : Nat → Nat) : Cf := cfAt Try.f14 [1, 1, 1, 0, 0, 0, 1, 0, 1, 1, 0, 0, 1, 1, 1, 1, 1, 0, 0] ⟨([.str c] ++ (J j 1 4 ++ ([(.sref 135 ((vs 135) + 1) 3 0 ad), .int .i64 f, .int .i64 a, j 8, .int .i64 e] ++ J j 10 131))), (J jb 0 135 ++ ([⟨((vs 135) + 1), false, .rows 3 (aa.map E_ref19_Token)⟩] ++ J jb 136 5))⟩
def ref19_All_l13 : Prop := ∀ ad, ad = aa.length → ∀ j jb vs, W C F 14 0 (ref19_All_l13_s c f a e aa ad j jb vs) (Ans C Try.f14 (.tuple [(.list 3 (l.map E_ref19_Token)), .int .i64 p, .int .i64 q]))
noncomputable def ref19_All_l14_s (j : Nat → D) (jb : Nat → Blk) (vs : Nat → Nat) : Cf := cfAt Try.f14 [1, 1, 1, 0, 0, 0, 1, 0, 1, 1, 0, 0, 1, 1, 1, 1, 1, 1, 1, 1, 1, 0, 0, 0] ⟨([.str c] ++ (J j 1 4 ++ ([(.sref 135 ((vs 135) + 1) 3 0 ad), .int .i64 f, .int .i64 a, j 8, .int .i64 e] ++ J j 10 131))), (J jb 0 135 ++ ([⟨((vs 135) + 1), false, .rows 3 (aa.map E_ref19_Token)⟩] ++ J jb 136 5))⟩
def ref19_All_l14 : Prop := ∀ ad, ad = aa.length → ∀ j jb vs, W C F 14 0 (ref19_All_l14_s c f a e aa ad j jb vs) (Ans C Try.f14 (.tuple [(.list 3 (l.map E_ref19_Token)), .int .i64 p, .int .i64 q]))
noncomputable def ref19_All_l15_s (j : Nat → D) (jb : Nat → Blk) (vs : Nat → Nat) : Cf := cfAt Try.f14 [1, 1, 1, 0, 0, 0, 1, 0, 1, 1, 0, 0, 1, 1, 1, 1, 1, 1, 1, 1, 1, 1, 1, 0, 0, 0] ⟨([.str c] ++ (J j 1 4 ++ ([(.sref 135 ((vs 135) + 1) 3 0 ad), .int .i64 f, .int .i64 a, j 8, .int .i64 e] ++ J j 10 131))), (J jb 0 135 ++ ([⟨((vs 135) + 1), false, .rows 3 (aa.map E_ref19_Token)⟩] ++ J jb 136 5))⟩
def ref19_All_l15 : Prop := ∀ ad, ad = aa.length → ∀ j jb vs, W C F 14 0 (ref19_All_l15_s c f a e aa ad j jb vs) (Ans C Try.f14 (.tuple [(.list 3 (l.map E_ref19_Token)), .int .i64 p, .int .i64 q]))
variable {c f a e u ab z ac aa ad cq l p q}
theorem ref19_All_l0_go (H : a < (c.size : Int) ∧ 0 ≤ a ∧ ((letter c a) = 10 ∧ ref19_All_l0 c (wi (f + 1)) (wi (a + 1)) l p q ∨ ¬ (letter c a) = 10 ∧ ((letter c a) = 32 ∧ ref19_All_l0 c f (wi (a + 1)) l p q ∨ ¬ (letter c a) = 32 ∧ ((letter c a) = 9 ∧ ref19_All_l0 c f (wi (a + 1)) l p q ∨ ¬ (letter c a) = 9 ∧ ((letter c a) = 35 ∧ ref19_All_l1 c f a 1 l p q ∨ ¬ (letter c a) = 35 ∧ ∃ a8, ref19_mark_R (letter c a) a8 ∧ ((a8 = true ∧ a ≤ (wi (a + 1)) ∧ (wi (a + 1)) ≤ (c.size : Int) ∧ (1 + 192) * (32 + 1) ≤ 70368744177664 ∧ ∃ bw, bw = [(3, (c.extract (a).toNat (wi (a + 1)).toNat), f)] ∧ ref19_All_l2 c f (wi (a + 1)) bw l p q) ∨ ¬ a8 = true ∧ (48 ≤ (letter c a) ∧ ((letter c a) ≤ 57 ∧ ref19_All_l3 c f a 1 l p q ∨ ¬ (letter c a) ≤ 57 ∧ (97 ≤ (letter c a) ∧ ((letter c a) ≤ 122 ∧ ref19_All_l4 c f a 1 l p q ∨ ¬ (letter c a) ≤ 122 ∧ l = ([] : List T_ref19_Token) ∧ p = f ∧ q = 21) ∨ ¬ 97 ≤ (letter c a) ∧ l = ([] : List T_ref19_Token) ∧ p = f ∧ q = 21)) ∨ ¬ 48 ≤ (letter c a) ∧ (97 ≤ (letter c a) ∧ ((letter c a) ≤ 122 ∧ ref19_All_l4 c f a 1 l p q ∨ ¬ (letter c a) ≤ 122 ∧ l = ([] : List T_ref19_Token) ∧ p = f ∧ q = 21) ∨ ¬ 97 ≤ (letter c a) ∧ l = ([] : List T_ref19_Token) ∧ p = f ∧ q = 21))))))) ∨ ¬ a < (c.size : Int) ∧ l = ([] : List T_ref19_Token) ∧ p = f ∧ q = 0) : ref19_All_l0 c f a l p q := by
 intro j jb vs
 refine W.adv 1 (W.adv 9 ?_)
 rcases H with ⟨cl, H⟩ | ⟨cl, H⟩
 ·refine W.ct (a < (c.size : Int)) cl ?_
  refine W.adv 7 ?_
  obtain ⟨d3, H⟩ := H
  refine W.opS (OpIs.ixT (k := .i64) (s := c) (i := a) (by kernel_rfl) d3 cl) ?_
  refine W.adv 17 ?_
  rcases H with ⟨cr, H⟩ | ⟨cr, H⟩
  ·refine W.ct ((letter c a) = 10) cr ?_
   exact W.adv 15 (W.tl H)
  ·refine W.cf ((letter c a) = 10) cr ?_
   refine W.adv 5 ?_
   rcases H with ⟨a9, H⟩ | ⟨a9, H⟩
   ·refine W.gt' ((letter c a) = 32) a9 ?_
    refine W.gt' ((letter c a) = 32) a9 ?_
    refine W.opS (O.pk (decide ((letter c a) = 32)) true (.bool true) (.tuple []) (decide_eq_true a9)) ?_
    exact W.adv 17 (W.tl H)
   ·refine W.gf' ((letter c a) = 32) a9 ?_
    refine W.adv 1 (W.gf' ((letter c a) = 32) a9 ?_)
    refine W.adv 1 (W.opS (O.pk (decide ((letter c a) = 32)) false (.bool true) (.bool (decide ((letter c a) = 9))) (decide_eq_false a9)) ?_)
    refine W.adv 3 ?_
    rcases H with ⟨cs, H⟩ | ⟨cs, H⟩
    ·refine W.ct ((letter c a) = 9) cs ?_
     exact W.adv 13 (W.tl H)
    ·refine W.cf ((letter c a) = 9) cs ?_
     refine W.adv 7 ?_
     rcases H with ⟨ct, H⟩ | ⟨ct, H⟩
     ·refine W.ct ((letter c a) = 35) ct ?_
      exact W.adv 1 (W.tl H)
     ·refine W.cf ((letter c a) = 35) ct ?_
      refine W.adv 3 ?_
      obtain ⟨a8, ew, H⟩ := H
      refine W.cl 32 [(.int .u8 (letter c a))] (.bool a8) ew ?_
      refine W.adv 3 ?_
      rcases H with ⟨cu, H⟩ | ⟨cu, H⟩
      ·refine W.cb true a8 cu ?_
       refine W.adv 6 ?_
       obtain ⟨ey, ez, H⟩ := H
       refine W.opS (OpIs.slT_lh (k' := .i64) (k'' := .i64) (s := c) (i := a) (j := (wi (a + 1))) (by kernel_rfl) d3 ey ez) ?_
       refine W.adv 3 ?_
       obtain ⟨e0, H⟩ := H
       obtain ⟨bw, d4, H⟩ := H
       have e1 : 1 = bw.length := by rw [d4] <;> rfl
       refine W.opH (O.apENil E_ref19_Token (.lit (.list 3 [(.agg [.int .i64 3, (.str (c.extract (a).toNat (wi (a + 1)).toNat)), .int .i64 f])])) 32 62 ((jb 62).ver) 3 [(3, (c.extract (a).toNat (wi (a + 1)).toNat), f)] d4 e0) ?_
       exact W.adv 12 (W.tl (H _ e1))
      ·refine W.cb false a8 (bfalse cu) ?_
       refine W.adv 5 ?_
       rcases H with ⟨ba, H⟩ | ⟨ba, H⟩
       ·refine W.gt (48 ≤ (letter c a)) ba ?_
        refine W.adv 1 (W.gt (48 ≤ (letter c a)) ba ?_)
        refine W.adv 1 (W.opS (O.pk (decide (48 ≤ (letter c a))) true (.bool (decide ((letter c a) ≤ 57))) (.bool false) (decide_eq_true ba)) ?_)
        refine W.adv 3 ?_
        rcases H with ⟨cv, H⟩ | ⟨cv, H⟩
        ·refine W.ct ((letter c a) ≤ 57) cv ?_
         exact W.adv 2 (W.tl H)
        ·refine W.cf ((letter c a) ≤ 57) cv ?_
         refine W.adv 5 ?_
         rcases H with ⟨bb, H⟩ | ⟨bb, H⟩
         ·refine W.gt (97 ≤ (letter c a)) bb ?_
          refine W.adv 1 (W.gt (97 ≤ (letter c a)) bb ?_)
          refine W.adv 1 (W.opS (O.pk (decide (97 ≤ (letter c a))) true (.bool (decide ((letter c a) ≤ 122))) (.bool false) (decide_eq_true bb)) ?_)
          refine W.adv 3 ?_
          rcases H with ⟨cw, H⟩ | ⟨cw, H⟩
          ·refine W.ct ((letter c a) ≤ 122) cw ?_
           exact W.adv 2 (W.tl H)
          ·refine W.cf ((letter c a) ≤ 122) cw ?_
           exact W.adv 15 (W.fr (Ans.q (.tuple [(.list 3 (([] : List T_ref19_Token).map E_ref19_Token)), .int .i64 f, .int .i64 21]) (by rw [H.1, H.2.1, H.2.2])))
         ·refine W.gf (97 ≤ (letter c a)) bb ?_
          refine W.gf (97 ≤ (letter c a)) bb ?_
          refine W.opS (O.pk (decide (97 ≤ (letter c a))) false (.tuple []) (.bool false) (decide_eq_false bb)) ?_
          exact W.adv 19 (W.fr (Ans.q (.tuple [(.list 3 (([] : List T_ref19_Token).map E_ref19_Token)), .int .i64 f, .int .i64 21]) (by rw [H.1, H.2.1, H.2.2])))
       ·refine W.gf (48 ≤ (letter c a)) ba ?_
        refine W.gf (48 ≤ (letter c a)) ba ?_
        refine W.opS (O.pk (decide (48 ≤ (letter c a))) false (.tuple []) (.bool false) (decide_eq_false ba)) ?_
        refine W.adv 9 ?_
        rcases H with ⟨bc, H⟩ | ⟨bc, H⟩
        ·refine W.gt (97 ≤ (letter c a)) bc ?_
         refine W.adv 1 (W.gt (97 ≤ (letter c a)) bc ?_)
         refine W.adv 1 (W.opS (O.pk (decide (97 ≤ (letter c a))) true (.bool (decide ((letter c a) ≤ 122))) (.bool false) (decide_eq_true bc)) ?_)
         refine W.adv 3 ?_
         rcases H with ⟨cy, H⟩ | ⟨cy, H⟩
         ·refine W.ct ((letter c a) ≤ 122) cy ?_
          exact W.adv 2 (W.tl H)
         ·refine W.cf ((letter c a) ≤ 122) cy ?_
          exact W.adv 15 (W.fr (Ans.q (.tuple [(.list 3 (([] : List T_ref19_Token).map E_ref19_Token)), .int .i64 f, .int .i64 21]) (by rw [H.1, H.2.1, H.2.2])))
        ·refine W.gf (97 ≤ (letter c a)) bc ?_
         refine W.gf (97 ≤ (letter c a)) bc ?_
         refine W.opS (O.pk (decide (97 ≤ (letter c a))) false (.tuple []) (.bool false) (decide_eq_false bc)) ?_
         exact W.adv 19 (W.fr (Ans.q (.tuple [(.list 3 (([] : List T_ref19_Token).map E_ref19_Token)), .int .i64 f, .int .i64 21]) (by rw [H.1, H.2.1, H.2.2])))
 ·refine W.cf (a < (c.size : Int)) cl ?_
  exact W.adv 15 (W.fr (Ans.q (.tuple [(.list 3 (([] : List T_ref19_Token).map E_ref19_Token)), .int .i64 f, .int .i64 0]) (by rw [H.1, H.2.1, H.2.2])))
theorem ref19_All_l1_go (H : (wi (a + e)) < (c.size : Int) ∧ 0 ≤ (wi (a + e)) ∧ ((letter c (wi (a + e))) = 10 ∧ ref19_All_l0 c f (wi (a + e)) l p q ∨ ¬ (letter c (wi (a + e))) = 10 ∧ ref19_All_l1 c f a (wi (e + 1)) l p q) ∨ ¬ (wi (a + e)) < (c.size : Int) ∧ ref19_All_l0 c f (wi (a + e)) l p q) : ref19_All_l1 c f a e l p q := by
 intro j jb vs
 refine W.adv 1 (W.adv 10 ?_)
 rcases H with ⟨an, H⟩ | ⟨an, H⟩
 ·refine W.gt ((wi (a + e)) < (c.size : Int)) an ?_
  refine W.adv 1 (W.gt ((wi (a + e)) < (c.size : Int)) an ?_)
  refine W.adv 1 (W.gt ((wi (a + e)) < (c.size : Int)) an ?_)
  refine W.adv 1 (W.gt ((wi (a + e)) < (c.size : Int)) an ?_)
  refine W.adv 1 (W.gt ((wi (a + e)) < (c.size : Int)) an ?_)
  obtain ⟨e2, H⟩ := H
  refine W.opS (OpIs.ixT (k := .i64) (s := c) (i := (wi (a + e))) (by kernel_rfl) e2 an) ?_
  refine W.gt ((wi (a + e)) < (c.size : Int)) an ?_
  refine W.adv 1 (W.opS (O.pk (decide ((wi (a + e)) < (c.size : Int))) true (.bool (!(decide ((letter c (wi (a + e))) = 10)))) (.bool false) (decide_eq_true an)) ?_)
  refine W.adv 2 ?_
  rcases H with ⟨cz, H⟩ | ⟨cz, H⟩
  ·refine W.cb false (!(decide ((letter c (wi (a + e))) = 10))) (congrArg (fun b => !b) (decide_eq_true cz)) ?_
   exact W.adv 14 (W.tl H)
  ·refine W.cb true (!(decide ((letter c (wi (a + e))) = 10))) (congrArg (fun b => !b) (decide_eq_false cz)) ?_
   exact W.adv 10 (W.tl H)
 ·refine W.gf ((wi (a + e)) < (c.size : Int)) an ?_
  refine W.gf ((wi (a + e)) < (c.size : Int)) an ?_
  refine W.gf ((wi (a + e)) < (c.size : Int)) an ?_
  refine W.gf ((wi (a + e)) < (c.size : Int)) an ?_
  refine W.gf ((wi (a + e)) < (c.size : Int)) an ?_
  refine W.gf ((wi (a + e)) < (c.size : Int)) an ?_
  refine W.opS (O.pk (decide ((wi (a + e)) < (c.size : Int))) false (.tuple []) (.bool false) (decide_eq_false an)) ?_
  exact W.adv 17 (W.tl H)
theorem ref19_All_l2_go (H : a < (c.size : Int) ∧ 0 ≤ a ∧ ((letter c a) = 10 ∧ ref19_All_l2 c (wi (f + 1)) (wi (a + 1)) u l p q ∨ ¬ (letter c a) = 10 ∧ ((letter c a) = 32 ∧ ref19_All_l2 c f (wi (a + 1)) u l p q ∨ ¬ (letter c a) = 32 ∧ ((letter c a) = 9 ∧ ref19_All_l2 c f (wi (a + 1)) u l p q ∨ ¬ (letter c a) = 9 ∧ ((letter c a) = 35 ∧ ref19_All_l5 c f a 1 u l p q ∨ ¬ (letter c a) = 35 ∧ ∃ bd, ref19_mark_R (letter c a) bd ∧ ((bd = true ∧ a ≤ (wi (a + 1)) ∧ (wi (a + 1)) ≤ (c.size : Int) ∧ (u.length + 1 + 192) * (32 + 1) ≤ 70368744177664 ∧ ∃ bz, bz = u ++ [(3, (c.extract (a).toNat (wi (a + 1)).toNat), f)] ∧ ref19_All_l2 c f (wi (a + 1)) bz l p q) ∨ ¬ bd = true ∧ (48 ≤ (letter c a) ∧ ((letter c a) ≤ 57 ∧ ref19_All_l6 c f a 1 u l p q ∨ ¬ (letter c a) ≤ 57 ∧ (97 ≤ (letter c a) ∧ ((letter c a) ≤ 122 ∧ ref19_All_l7 c f a 1 u l p q ∨ ¬ (letter c a) ≤ 122 ∧ l = ([] : List T_ref19_Token) ∧ p = f ∧ q = 21) ∨ ¬ 97 ≤ (letter c a) ∧ l = ([] : List T_ref19_Token) ∧ p = f ∧ q = 21)) ∨ ¬ 48 ≤ (letter c a) ∧ (97 ≤ (letter c a) ∧ ((letter c a) ≤ 122 ∧ ref19_All_l7 c f a 1 u l p q ∨ ¬ (letter c a) ≤ 122 ∧ l = ([] : List T_ref19_Token) ∧ p = f ∧ q = 21) ∨ ¬ 97 ≤ (letter c a) ∧ l = ([] : List T_ref19_Token) ∧ p = f ∧ q = 21))))))) ∨ ¬ a < (c.size : Int) ∧ l = u ∧ p = f ∧ q = 0) : ref19_All_l2 c f a u l p q := by
 intro ab ak j jb vs
 refine W.adv 1 (W.adv 9 ?_)
 rcases H with ⟨cm, H⟩ | ⟨cm, H⟩
 ·refine W.ct (a < (c.size : Int)) cm ?_
  refine W.adv 7 ?_
  obtain ⟨d5, H⟩ := H
  refine W.opS (OpIs.ixT (k := .i64) (s := c) (i := a) (by kernel_rfl) d5 cm) ?_
  refine W.adv 17 ?_
  rcases H with ⟨c0, H⟩ | ⟨c0, H⟩
  ·refine W.ct ((letter c a) = 10) c0 ?_
   exact W.adv 15 (W.tl (H _ ak))
  ·refine W.cf ((letter c a) = 10) c0 ?_
   refine W.adv 5 ?_
   rcases H with ⟨be, H⟩ | ⟨be, H⟩
   ·refine W.gt' ((letter c a) = 32) be ?_
    refine W.gt' ((letter c a) = 32) be ?_
    refine W.opS (O.pk (decide ((letter c a) = 32)) true (.bool true) (.tuple []) (decide_eq_true be)) ?_
    exact W.adv 17 (W.tl (H _ ak))
   ·refine W.gf' ((letter c a) = 32) be ?_
    refine W.adv 1 (W.gf' ((letter c a) = 32) be ?_)
    refine W.adv 1 (W.opS (O.pk (decide ((letter c a) = 32)) false (.bool true) (.bool (decide ((letter c a) = 9))) (decide_eq_false be)) ?_)
    refine W.adv 3 ?_
    rcases H with ⟨c1, H⟩ | ⟨c1, H⟩
    ·refine W.ct ((letter c a) = 9) c1 ?_
     exact W.adv 13 (W.tl (H _ ak))
    ·refine W.cf ((letter c a) = 9) c1 ?_
     refine W.adv 7 ?_
     rcases H with ⟨c2, H⟩ | ⟨c2, H⟩
     ·refine W.ct ((letter c a) = 35) c2 ?_
      exact W.adv 1 (W.tl (H _ ak))
     ·refine W.cf ((letter c a) = 35) c2 ?_
      refine W.adv 3 ?_
      obtain ⟨bd, e3, H⟩ := H
      refine W.cl 32 [(.int .u8 (letter c a))] (.bool bd) e3 ?_
      refine W.adv 3 ?_
      rcases H with ⟨c3, H⟩ | ⟨c3, H⟩
      ·refine W.cb true bd c3 ?_
       refine W.adv 6 ?_
       obtain ⟨e4, e5, H⟩ := H
       refine W.opS (OpIs.slT_lh (k' := .i64) (k'' := .i64) (s := c) (i := a) (j := (wi (a + 1))) (by kernel_rfl) d5 e4 e5) ?_
       refine W.adv 3 ?_
       obtain ⟨e6, H⟩ := H
       obtain ⟨bz, d6, H⟩ := H
       have e7 : (u.length + 1) = bz.length := by rw [d6, List.length_append] <;> rfl
       refine W.opK (O.apERow E_ref19_Token (.lit (.list 3 [(.agg [.int .i64 3, (.str (c.extract (a).toNat (wi (a + 1)).toNat)), .int .i64 f])])) 32 62 ((vs 62) + 1) 62 ((vs 62) + 1) ab 3 u [(3, (c.extract (a).toNat (wi (a + 1)).toNat), f)] d6 ak e6) ?_
       exact W.adv 12 (W.tl (H _ e7))
      ·refine W.cb false bd (bfalse c3) ?_
       refine W.adv 5 ?_
       rcases H with ⟨bf, H⟩ | ⟨bf, H⟩
       ·refine W.gt (48 ≤ (letter c a)) bf ?_
        refine W.adv 1 (W.gt (48 ≤ (letter c a)) bf ?_)
        refine W.adv 1 (W.opS (O.pk (decide (48 ≤ (letter c a))) true (.bool (decide ((letter c a) ≤ 57))) (.bool false) (decide_eq_true bf)) ?_)
        refine W.adv 3 ?_
        rcases H with ⟨c4, H⟩ | ⟨c4, H⟩
        ·refine W.ct ((letter c a) ≤ 57) c4 ?_
         exact W.adv 2 (W.tl (H _ ak))
        ·refine W.cf ((letter c a) ≤ 57) c4 ?_
         refine W.adv 5 ?_
         rcases H with ⟨bg, H⟩ | ⟨bg, H⟩
         ·refine W.gt (97 ≤ (letter c a)) bg ?_
          refine W.adv 1 (W.gt (97 ≤ (letter c a)) bg ?_)
          refine W.adv 1 (W.opS (O.pk (decide (97 ≤ (letter c a))) true (.bool (decide ((letter c a) ≤ 122))) (.bool false) (decide_eq_true bg)) ?_)
          refine W.adv 3 ?_
          rcases H with ⟨c5, H⟩ | ⟨c5, H⟩
          ·refine W.ct ((letter c a) ≤ 122) c5 ?_
           exact W.adv 2 (W.tl (H _ ak))
          ·refine W.cf ((letter c a) ≤ 122) c5 ?_
           exact W.adv 15 (W.fr (Ans.q (.tuple [(.list 3 (([] : List T_ref19_Token).map E_ref19_Token)), .int .i64 f, .int .i64 21]) (by rw [H.1, H.2.1, H.2.2])))
         ·refine W.gf (97 ≤ (letter c a)) bg ?_
          refine W.gf (97 ≤ (letter c a)) bg ?_
          refine W.opS (O.pk (decide (97 ≤ (letter c a))) false (.tuple []) (.bool false) (decide_eq_false bg)) ?_
          exact W.adv 19 (W.fr (Ans.q (.tuple [(.list 3 (([] : List T_ref19_Token).map E_ref19_Token)), .int .i64 f, .int .i64 21]) (by rw [H.1, H.2.1, H.2.2])))
       ·refine W.gf (48 ≤ (letter c a)) bf ?_
        refine W.gf (48 ≤ (letter c a)) bf ?_
        refine W.opS (O.pk (decide (48 ≤ (letter c a))) false (.tuple []) (.bool false) (decide_eq_false bf)) ?_
        refine W.adv 9 ?_
        rcases H with ⟨bi, H⟩ | ⟨bi, H⟩
        ·refine W.gt (97 ≤ (letter c a)) bi ?_
         refine W.adv 1 (W.gt (97 ≤ (letter c a)) bi ?_)
         refine W.adv 1 (W.opS (O.pk (decide (97 ≤ (letter c a))) true (.bool (decide ((letter c a) ≤ 122))) (.bool false) (decide_eq_true bi)) ?_)
         refine W.adv 3 ?_
         rcases H with ⟨c6, H⟩ | ⟨c6, H⟩
         ·refine W.ct ((letter c a) ≤ 122) c6 ?_
          exact W.adv 2 (W.tl (H _ ak))
         ·refine W.cf ((letter c a) ≤ 122) c6 ?_
          exact W.adv 15 (W.fr (Ans.q (.tuple [(.list 3 (([] : List T_ref19_Token).map E_ref19_Token)), .int .i64 f, .int .i64 21]) (by rw [H.1, H.2.1, H.2.2])))
        ·refine W.gf (97 ≤ (letter c a)) bi ?_
         refine W.gf (97 ≤ (letter c a)) bi ?_
         refine W.opS (O.pk (decide (97 ≤ (letter c a))) false (.tuple []) (.bool false) (decide_eq_false bi)) ?_
         exact W.adv 19 (W.fr (Ans.q (.tuple [(.list 3 (([] : List T_ref19_Token).map E_ref19_Token)), .int .i64 f, .int .i64 21]) (by rw [H.1, H.2.1, H.2.2])))
 ·refine W.cf (a < (c.size : Int)) cm ?_
  exact W.adv 15 (W.fr (Ans.of (d := (.tuple [(.sref 62 ((vs 62) + 1) 3 0 ab), .int .i64 f, .int .i64 0])) (d' := (.tuple [(.list 3 (u.map E_ref19_Token)), .int .i64 f, .int .i64 0])) (e' := (.tuple [(.list 3 (u.map E_ref19_Token)), .int .i64 f, .int .i64 0])) (by kernel_rfl) ((congrArg (fun h => reify h DEPTH (.tuple [(.sref 62 ((vs 62) + 1) 3 0 ab), .int .i64 f, .int .i64 0])) (tidy_ver (b := 62) (v := (vs 62)) (fz := false) (y := .rows 3 (u.map E_ref19_Token)) (by kernel_rfl))).trans (rf_tup (rf_cons (rf_fullE (enc := E_ref19_Token) E_ref19_Token_t (b := 62) (v := ((vs 62) + 1)) (w := ((vs 62) + 1)) (fz := false) (xs := u) (by kernel_rfl) rfl ak) (rf_cons (by kernel_rfl) (rf_cons (by kernel_rfl) rf_nil))))) (by kernel_rfl) (by rw [H.1, H.2.1, H.2.2])))
theorem ref19_All_l3_go (H : ((wi (a + e)) < (c.size : Int) ∧ 0 ≤ (wi (a + e)) ∧ ∃ az, ref19_figure_R (letter c (wi (a + e))) az ∧ (az = true ∧ ref19_All_l3 c f a (wi (e + 1)) l p q ∨ ¬ az = true ∧ 0 ≤ a ∧ a ≤ (wi (a + e)) ∧ (wi (a + e)) ≤ (c.size : Int) ∧ (1 + 192) * (32 + 1) ≤ 70368744177664 ∧ ∃ b0, b0 = [(2, (c.extract (a).toNat (wi (a + e)).toNat), f)] ∧ ref19_All_l8 c f (wi (a + e)) b0 l p q)) ∨ ¬ (wi (a + e)) < (c.size : Int) ∧ 0 ≤ a ∧ a ≤ (wi (a + e)) ∧ (wi (a + e)) ≤ (c.size : Int) ∧ (1 + 192) * (32 + 1) ≤ 70368744177664 ∧ ∃ b1, b1 = [(2, (c.extract (a).toNat (wi (a + e)).toNat), f)] ∧ ref19_All_l8 c f (wi (a + e)) b1 l p q) : ref19_All_l3 c f a e l p q := by
 intro j jb vs
 refine W.adv 1 (W.adv 10 ?_)
 rcases H with ⟨ap, H⟩ | ⟨ap, H⟩
 ·refine W.gt ((wi (a + e)) < (c.size : Int)) ap ?_
  refine W.adv 1 (W.gt ((wi (a + e)) < (c.size : Int)) ap ?_)
  refine W.adv 1 (W.gt ((wi (a + e)) < (c.size : Int)) ap ?_)
  refine W.adv 1 (W.gt ((wi (a + e)) < (c.size : Int)) ap ?_)
  refine W.adv 1 (W.gt ((wi (a + e)) < (c.size : Int)) ap ?_)
  obtain ⟨e8, H⟩ := H
  refine W.opS (OpIs.ixT (k := .i64) (s := c) (i := (wi (a + e))) (by kernel_rfl) e8 ap) ?_
  refine W.gt ((wi (a + e)) < (c.size : Int)) ap ?_
  obtain ⟨az, e9, H⟩ := H
  refine W.cl 33 [(.int .u8 (letter c (wi (a + e))))] (.bool az) e9 ?_
  refine W.opS (O.pk (decide ((wi (a + e)) < (c.size : Int))) true (.bool az) (.bool false) (decide_eq_true ap)) ?_
  refine W.adv 2 ?_
  rcases H with ⟨c8, H⟩ | ⟨c8, H⟩
  ·refine W.cb true az c8 ?_
   exact W.adv 10 (W.tl H)
  ·refine W.cb false az (bfalse c8) ?_
   refine W.adv 12 ?_
   obtain ⟨fa, fb, fc, H⟩ := H
   refine W.opS (OpIs.slT_lh (k' := .i64) (k'' := .i64) (s := c) (i := a) (j := (wi (a + e))) (by kernel_rfl) fa fb fc) ?_
   refine W.adv 3 ?_
   obtain ⟨fd, H⟩ := H
   obtain ⟨b0, d7, H⟩ := H
   have fe : 1 = b0.length := by rw [d7] <;> rfl
   refine W.opH (O.apENil E_ref19_Token (.lit (.list 3 [(.agg [.int .i64 2, (.str (c.extract (a).toNat (wi (a + e)).toNat)), .int .i64 f])])) 32 96 ((jb 96).ver) 3 [(2, (c.extract (a).toNat (wi (a + e)).toNat), f)] d7 fd) ?_
   exact W.adv 12 (W.tl (H _ fe))
 ·refine W.gf ((wi (a + e)) < (c.size : Int)) ap ?_
  refine W.gf ((wi (a + e)) < (c.size : Int)) ap ?_
  refine W.gf ((wi (a + e)) < (c.size : Int)) ap ?_
  refine W.gf ((wi (a + e)) < (c.size : Int)) ap ?_
  refine W.gf ((wi (a + e)) < (c.size : Int)) ap ?_
  refine W.gf ((wi (a + e)) < (c.size : Int)) ap ?_
  refine W.opS (O.pk (decide ((wi (a + e)) < (c.size : Int))) false (.tuple []) (.bool false) (decide_eq_false ap)) ?_
  refine W.adv 15 ?_
  obtain ⟨fg, fi, fk, H⟩ := H
  refine W.opS (OpIs.slT_lh (k' := .i64) (k'' := .i64) (s := c) (i := a) (j := (wi (a + e))) (by kernel_rfl) fg fi fk) ?_
  refine W.adv 3 ?_
  obtain ⟨fl, H⟩ := H
  obtain ⟨b1, d8, H⟩ := H
  have fm : 1 = b1.length := by rw [d8] <;> rfl
  refine W.opH (O.apENil E_ref19_Token (.lit (.list 3 [(.agg [.int .i64 2, (.str (c.extract (a).toNat (wi (a + e)).toNat)), .int .i64 f])])) 32 96 ((jb 96).ver) 3 [(2, (c.extract (a).toNat (wi (a + e)).toNat), f)] d8 fl) ?_
  exact W.adv 12 (W.tl (H _ fm))
theorem ref19_All_l4_go (H : ((wi (a + e)) < (c.size : Int) ∧ 0 ≤ (wi (a + e)) ∧ (wi (a + e)) ≤ (wi ((wi (a + e)) + 1)) ∧ (wi ((wi (a + e)) + 1)) ≤ (c.size : Int) ∧ (⟨#[97]⟩ : ByteArray).size + (c.extract (wi (a + e)).toNat (wi ((wi (a + e)) + 1)).toNat).size ≤ 9223372036854775807 ∧ ∃ a1, ref17_Word_R ((⟨#[97]⟩ : ByteArray) ++ (c.extract (wi (a + e)).toNat (wi ((wi (a + e)) + 1)).toNat)) a1 ∧ (a1 = true ∧ ref19_All_l4 c f a (wi (e + 1)) l p q ∨ ¬ a1 = true ∧ 0 ≤ a ∧ a ≤ (wi (a + e)) ∧ (wi (a + e)) ≤ (c.size : Int) ∧ (1 + 192) * (32 + 1) ≤ 70368744177664 ∧ ∃ b2, b2 = [(1, (c.extract (a).toNat (wi (a + e)).toNat), f)] ∧ ref19_All_l9 c f (wi (a + e)) b2 l p q)) ∨ ¬ (wi (a + e)) < (c.size : Int) ∧ 0 ≤ a ∧ a ≤ (wi (a + e)) ∧ (wi (a + e)) ≤ (c.size : Int) ∧ (1 + 192) * (32 + 1) ≤ 70368744177664 ∧ ∃ b3, b3 = [(1, (c.extract (a).toNat (wi (a + e)).toNat), f)] ∧ ref19_All_l9 c f (wi (a + e)) b3 l p q) : ref19_All_l4 c f a e l p q := by
 intro j jb vs
 refine W.adv 1 (W.adv 10 ?_)
 rcases H with ⟨ae, H⟩ | ⟨ae, H⟩
 ·refine W.gt ((wi (a + e)) < (c.size : Int)) ae ?_
  refine W.adv 1 (W.gt ((wi (a + e)) < (c.size : Int)) ae ?_)
  refine W.adv 1 (W.gt ((wi (a + e)) < (c.size : Int)) ae ?_)
  refine W.adv 1 (W.gt ((wi (a + e)) < (c.size : Int)) ae ?_)
  refine W.adv 1 (W.gt ((wi (a + e)) < (c.size : Int)) ae ?_)
  refine W.adv 1 (W.gt ((wi (a + e)) < (c.size : Int)) ae ?_)
  refine W.adv 1 (W.gt ((wi (a + e)) < (c.size : Int)) ae ?_)
  refine W.adv 1 (W.gt ((wi (a + e)) < (c.size : Int)) ae ?_)
  refine W.adv 1 (W.gt ((wi (a + e)) < (c.size : Int)) ae ?_)
  obtain ⟨fp, fq, fr, H⟩ := H
  refine W.opS (OpIs.slT_lh (k' := .i64) (k'' := .i64) (s := c) (i := (wi (a + e))) (j := (wi ((wi (a + e)) + 1))) (by kernel_rfl) fp fq fr) ?_
  refine W.gt ((wi (a + e)) < (c.size : Int)) ae ?_
  obtain ⟨fs, H⟩ := H
  refine W.opS (OpIs.bn (op := .add) (x := (.str ⟨#[97]⟩)) (y := (.str (c.extract (wi (a + e)).toNat (wi ((wi (a + e)) + 1)).toNat))) (by kernel_rfl) (addS fs)) ?_
  refine W.gt ((wi (a + e)) < (c.size : Int)) ae ?_
  obtain ⟨a1, ft, H⟩ := H
  refine W.cl 34 [(.str ((⟨#[97]⟩ : ByteArray) ++ (c.extract (wi (a + e)).toNat (wi ((wi (a + e)) + 1)).toNat)))] (.bool a1) ft ?_
  refine W.opS (O.pk (decide ((wi (a + e)) < (c.size : Int))) true (.bool a1) (.bool false) (decide_eq_true ae)) ?_
  refine W.adv 2 ?_
  rcases H with ⟨c9, H⟩ | ⟨c9, H⟩
  ·refine W.cb true a1 c9 ?_
   exact W.adv 10 (W.tl H)
  ·refine W.cb false a1 (bfalse c9) ?_
   refine W.adv 12 ?_
   obtain ⟨fu, fv, fw, H⟩ := H
   refine W.opS (OpIs.slT_lh (k' := .i64) (k'' := .i64) (s := c) (i := a) (j := (wi (a + e))) (by kernel_rfl) fu fv fw) ?_
   refine W.adv 3 ?_
   obtain ⟨fy, H⟩ := H
   obtain ⟨b2, d9, H⟩ := H
   have f0 : 1 = b2.length := by rw [d9] <;> rfl
   refine W.opH (O.apENil E_ref19_Token (.lit (.list 3 [(.agg [.int .i64 1, (.str (c.extract (a).toNat (wi (a + e)).toNat)), .int .i64 f])])) 32 135 ((jb 135).ver) 3 [(1, (c.extract (a).toNat (wi (a + e)).toNat), f)] d9 fy) ?_
   exact W.adv 12 (W.tl (H _ f0))
 ·refine W.gf ((wi (a + e)) < (c.size : Int)) ae ?_
  refine W.gf ((wi (a + e)) < (c.size : Int)) ae ?_
  refine W.gf ((wi (a + e)) < (c.size : Int)) ae ?_
  refine W.gf ((wi (a + e)) < (c.size : Int)) ae ?_
  refine W.gf ((wi (a + e)) < (c.size : Int)) ae ?_
  refine W.gf ((wi (a + e)) < (c.size : Int)) ae ?_
  refine W.gf ((wi (a + e)) < (c.size : Int)) ae ?_
  refine W.gf ((wi (a + e)) < (c.size : Int)) ae ?_
  refine W.gf ((wi (a + e)) < (c.size : Int)) ae ?_
  refine W.gf ((wi (a + e)) < (c.size : Int)) ae ?_
  refine W.gf ((wi (a + e)) < (c.size : Int)) ae ?_
  refine W.opS (O.pk (decide ((wi (a + e)) < (c.size : Int))) false (.tuple []) (.bool false) (decide_eq_false ae)) ?_
  refine W.adv 15 ?_
  obtain ⟨f1, f2, f3, H⟩ := H
  refine W.opS (OpIs.slT_lh (k' := .i64) (k'' := .i64) (s := c) (i := a) (j := (wi (a + e))) (by kernel_rfl) f1 f2 f3) ?_
  refine W.adv 3 ?_
  obtain ⟨f4, H⟩ := H
  obtain ⟨b3, ea, H⟩ := H
  have f5 : 1 = b3.length := by rw [ea] <;> rfl
  refine W.opH (O.apENil E_ref19_Token (.lit (.list 3 [(.agg [.int .i64 1, (.str (c.extract (a).toNat (wi (a + e)).toNat)), .int .i64 f])])) 32 135 ((jb 135).ver) 3 [(1, (c.extract (a).toNat (wi (a + e)).toNat), f)] ea f4) ?_
  exact W.adv 12 (W.tl (H _ f5))
theorem ref19_All_l5_go (H : (wi (a + e)) < (c.size : Int) ∧ 0 ≤ (wi (a + e)) ∧ ((letter c (wi (a + e))) = 10 ∧ ref19_All_l2 c f (wi (a + e)) u l p q ∨ ¬ (letter c (wi (a + e))) = 10 ∧ ref19_All_l5 c f a (wi (e + 1)) u l p q) ∨ ¬ (wi (a + e)) < (c.size : Int) ∧ ref19_All_l2 c f (wi (a + e)) u l p q) : ref19_All_l5 c f a e u l p q := by
 intro ab ak j jb vs
 refine W.adv 1 (W.adv 10 ?_)
 rcases H with ⟨aq, H⟩ | ⟨aq, H⟩
 ·refine W.gt ((wi (a + e)) < (c.size : Int)) aq ?_
  refine W.adv 1 (W.gt ((wi (a + e)) < (c.size : Int)) aq ?_)
  refine W.adv 1 (W.gt ((wi (a + e)) < (c.size : Int)) aq ?_)
  refine W.adv 1 (W.gt ((wi (a + e)) < (c.size : Int)) aq ?_)
  refine W.adv 1 (W.gt ((wi (a + e)) < (c.size : Int)) aq ?_)
  obtain ⟨f6, H⟩ := H
  refine W.opS (OpIs.ixT (k := .i64) (s := c) (i := (wi (a + e))) (by kernel_rfl) f6 aq) ?_
  refine W.gt ((wi (a + e)) < (c.size : Int)) aq ?_
  refine W.adv 1 (W.opS (O.pk (decide ((wi (a + e)) < (c.size : Int))) true (.bool (!(decide ((letter c (wi (a + e))) = 10)))) (.bool false) (decide_eq_true aq)) ?_)
  refine W.adv 2 ?_
  rcases H with ⟨da, H⟩ | ⟨da, H⟩
  ·refine W.cb false (!(decide ((letter c (wi (a + e))) = 10))) (congrArg (fun b => !b) (decide_eq_true da)) ?_
   exact W.adv 14 (W.tl (H _ ak))
  ·refine W.cb true (!(decide ((letter c (wi (a + e))) = 10))) (congrArg (fun b => !b) (decide_eq_false da)) ?_
   exact W.adv 10 (W.tl (H _ ak))
 ·refine W.gf ((wi (a + e)) < (c.size : Int)) aq ?_
  refine W.gf ((wi (a + e)) < (c.size : Int)) aq ?_
  refine W.gf ((wi (a + e)) < (c.size : Int)) aq ?_
  refine W.gf ((wi (a + e)) < (c.size : Int)) aq ?_
  refine W.gf ((wi (a + e)) < (c.size : Int)) aq ?_
  refine W.gf ((wi (a + e)) < (c.size : Int)) aq ?_
  refine W.opS (O.pk (decide ((wi (a + e)) < (c.size : Int))) false (.tuple []) (.bool false) (decide_eq_false aq)) ?_
  exact W.adv 17 (W.tl (H _ ak))
theorem ref19_All_l6_go (H : ((wi (a + e)) < (c.size : Int) ∧ 0 ≤ (wi (a + e)) ∧ ∃ a2, ref19_figure_R (letter c (wi (a + e))) a2 ∧ (a2 = true ∧ ref19_All_l6 c f a (wi (e + 1)) u l p q ∨ ¬ a2 = true ∧ 0 ≤ a ∧ a ≤ (wi (a + e)) ∧ (wi (a + e)) ≤ (c.size : Int) ∧ (u.length + 1 + 192) * (32 + 1) ≤ 70368744177664 ∧ ∃ b4, b4 = u ++ [(2, (c.extract (a).toNat (wi (a + e)).toNat), f)] ∧ ref19_All_l8 c f (wi (a + e)) b4 l p q)) ∨ ¬ (wi (a + e)) < (c.size : Int) ∧ 0 ≤ a ∧ a ≤ (wi (a + e)) ∧ (wi (a + e)) ≤ (c.size : Int) ∧ (u.length + 1 + 192) * (32 + 1) ≤ 70368744177664 ∧ ∃ b5, b5 = u ++ [(2, (c.extract (a).toNat (wi (a + e)).toNat), f)] ∧ ref19_All_l8 c f (wi (a + e)) b5 l p q) : ref19_All_l6 c f a e u l p q := by
 intro ab ak j jb vs
 refine W.adv 1 (W.adv 10 ?_)
 rcases H with ⟨ar, H⟩ | ⟨ar, H⟩
 ·refine W.gt ((wi (a + e)) < (c.size : Int)) ar ?_
  refine W.adv 1 (W.gt ((wi (a + e)) < (c.size : Int)) ar ?_)
  refine W.adv 1 (W.gt ((wi (a + e)) < (c.size : Int)) ar ?_)
  refine W.adv 1 (W.gt ((wi (a + e)) < (c.size : Int)) ar ?_)
  refine W.adv 1 (W.gt ((wi (a + e)) < (c.size : Int)) ar ?_)
  obtain ⟨f7, H⟩ := H
  refine W.opS (OpIs.ixT (k := .i64) (s := c) (i := (wi (a + e))) (by kernel_rfl) f7 ar) ?_
  refine W.gt ((wi (a + e)) < (c.size : Int)) ar ?_
  obtain ⟨a2, f8, H⟩ := H
  refine W.cl 33 [(.int .u8 (letter c (wi (a + e))))] (.bool a2) f8 ?_
  refine W.opS (O.pk (decide ((wi (a + e)) < (c.size : Int))) true (.bool a2) (.bool false) (decide_eq_true ar)) ?_
  refine W.adv 2 ?_
  rcases H with ⟨db, H⟩ | ⟨db, H⟩
  ·refine W.cb true a2 db ?_
   exact W.adv 10 (W.tl (H _ ak))
  ·refine W.cb false a2 (bfalse db) ?_
   refine W.adv 12 ?_
   obtain ⟨f9, ga, gb, H⟩ := H
   refine W.opS (OpIs.slT_lh (k' := .i64) (k'' := .i64) (s := c) (i := a) (j := (wi (a + e))) (by kernel_rfl) f9 ga gb) ?_
   refine W.adv 3 ?_
   obtain ⟨gc, H⟩ := H
   obtain ⟨b4, ec, H⟩ := H
   have gd : (u.length + 1) = b4.length := by rw [ec, List.length_append] <;> rfl
   refine W.opK (O.apERow E_ref19_Token (.lit (.list 3 [(.agg [.int .i64 2, (.str (c.extract (a).toNat (wi (a + e)).toNat)), .int .i64 f])])) 32 96 ((jb 96).ver) 62 ((vs 62) + 1) ab 3 u [(2, (c.extract (a).toNat (wi (a + e)).toNat), f)] ec ak gc) ?_
   exact W.adv 12 (W.tl (H _ gd))
 ·refine W.gf ((wi (a + e)) < (c.size : Int)) ar ?_
  refine W.gf ((wi (a + e)) < (c.size : Int)) ar ?_
  refine W.gf ((wi (a + e)) < (c.size : Int)) ar ?_
  refine W.gf ((wi (a + e)) < (c.size : Int)) ar ?_
  refine W.gf ((wi (a + e)) < (c.size : Int)) ar ?_
  refine W.gf ((wi (a + e)) < (c.size : Int)) ar ?_
  refine W.opS (O.pk (decide ((wi (a + e)) < (c.size : Int))) false (.tuple []) (.bool false) (decide_eq_false ar)) ?_
  refine W.adv 15 ?_
  obtain ⟨ge, gf, gg, H⟩ := H
  refine W.opS (OpIs.slT_lh (k' := .i64) (k'' := .i64) (s := c) (i := a) (j := (wi (a + e))) (by kernel_rfl) ge gf gg) ?_
  refine W.adv 3 ?_
  obtain ⟨gi, H⟩ := H
  obtain ⟨b5, ed, H⟩ := H
  have gk : (u.length + 1) = b5.length := by rw [ed, List.length_append] <;> rfl
  refine W.opK (O.apERow E_ref19_Token (.lit (.list 3 [(.agg [.int .i64 2, (.str (c.extract (a).toNat (wi (a + e)).toNat)), .int .i64 f])])) 32 96 ((jb 96).ver) 62 ((vs 62) + 1) ab 3 u [(2, (c.extract (a).toNat (wi (a + e)).toNat), f)] ed ak gi) ?_
  exact W.adv 12 (W.tl (H _ gk))
theorem ref19_All_l7_go (H : ((wi (a + e)) < (c.size : Int) ∧ 0 ≤ (wi (a + e)) ∧ (wi (a + e)) ≤ (wi ((wi (a + e)) + 1)) ∧ (wi ((wi (a + e)) + 1)) ≤ (c.size : Int) ∧ (⟨#[97]⟩ : ByteArray).size + (c.extract (wi (a + e)).toNat (wi ((wi (a + e)) + 1)).toNat).size ≤ 9223372036854775807 ∧ ∃ a3, ref17_Word_R ((⟨#[97]⟩ : ByteArray) ++ (c.extract (wi (a + e)).toNat (wi ((wi (a + e)) + 1)).toNat)) a3 ∧ (a3 = true ∧ ref19_All_l7 c f a (wi (e + 1)) u l p q ∨ ¬ a3 = true ∧ 0 ≤ a ∧ a ≤ (wi (a + e)) ∧ (wi (a + e)) ≤ (c.size : Int) ∧ (u.length + 1 + 192) * (32 + 1) ≤ 70368744177664 ∧ ∃ b6, b6 = u ++ [(1, (c.extract (a).toNat (wi (a + e)).toNat), f)] ∧ ref19_All_l9 c f (wi (a + e)) b6 l p q)) ∨ ¬ (wi (a + e)) < (c.size : Int) ∧ 0 ≤ a ∧ a ≤ (wi (a + e)) ∧ (wi (a + e)) ≤ (c.size : Int) ∧ (u.length + 1 + 192) * (32 + 1) ≤ 70368744177664 ∧ ∃ b7, b7 = u ++ [(1, (c.extract (a).toNat (wi (a + e)).toNat), f)] ∧ ref19_All_l9 c f (wi (a + e)) b7 l p q) : ref19_All_l7 c f a e u l p q := by
 intro ab ak j jb vs
 refine W.adv 1 (W.adv 10 ?_)
 rcases H with ⟨af, H⟩ | ⟨af, H⟩
 ·refine W.gt ((wi (a + e)) < (c.size : Int)) af ?_
  refine W.adv 1 (W.gt ((wi (a + e)) < (c.size : Int)) af ?_)
  refine W.adv 1 (W.gt ((wi (a + e)) < (c.size : Int)) af ?_)
  refine W.adv 1 (W.gt ((wi (a + e)) < (c.size : Int)) af ?_)
  refine W.adv 1 (W.gt ((wi (a + e)) < (c.size : Int)) af ?_)
  refine W.adv 1 (W.gt ((wi (a + e)) < (c.size : Int)) af ?_)
  refine W.adv 1 (W.gt ((wi (a + e)) < (c.size : Int)) af ?_)
  refine W.adv 1 (W.gt ((wi (a + e)) < (c.size : Int)) af ?_)
  refine W.adv 1 (W.gt ((wi (a + e)) < (c.size : Int)) af ?_)
  obtain ⟨gl, gm, gn, H⟩ := H
  refine W.opS (OpIs.slT_lh (k' := .i64) (k'' := .i64) (s := c) (i := (wi (a + e))) (j := (wi ((wi (a + e)) + 1))) (by kernel_rfl) gl gm gn) ?_
  refine W.gt ((wi (a + e)) < (c.size : Int)) af ?_
  obtain ⟨gp, H⟩ := H
  refine W.opS (OpIs.bn (op := .add) (x := (.str ⟨#[97]⟩)) (y := (.str (c.extract (wi (a + e)).toNat (wi ((wi (a + e)) + 1)).toNat))) (by kernel_rfl) (addS gp)) ?_
  refine W.gt ((wi (a + e)) < (c.size : Int)) af ?_
  obtain ⟨a3, gq, H⟩ := H
  refine W.cl 34 [(.str ((⟨#[97]⟩ : ByteArray) ++ (c.extract (wi (a + e)).toNat (wi ((wi (a + e)) + 1)).toNat)))] (.bool a3) gq ?_
  refine W.opS (O.pk (decide ((wi (a + e)) < (c.size : Int))) true (.bool a3) (.bool false) (decide_eq_true af)) ?_
  refine W.adv 2 ?_
  rcases H with ⟨dc, H⟩ | ⟨dc, H⟩
  ·refine W.cb true a3 dc ?_
   exact W.adv 10 (W.tl (H _ ak))
  ·refine W.cb false a3 (bfalse dc) ?_
   refine W.adv 12 ?_
   obtain ⟨gr, gs, gt, H⟩ := H
   refine W.opS (OpIs.slT_lh (k' := .i64) (k'' := .i64) (s := c) (i := a) (j := (wi (a + e))) (by kernel_rfl) gr gs gt) ?_
   refine W.adv 3 ?_
   obtain ⟨gu, H⟩ := H
   obtain ⟨b6, ee, H⟩ := H
   have gv : (u.length + 1) = b6.length := by rw [ee, List.length_append] <;> rfl
   refine W.opK (O.apERow E_ref19_Token (.lit (.list 3 [(.agg [.int .i64 1, (.str (c.extract (a).toNat (wi (a + e)).toNat)), .int .i64 f])])) 32 135 ((jb 135).ver) 62 ((vs 62) + 1) ab 3 u [(1, (c.extract (a).toNat (wi (a + e)).toNat), f)] ee ak gu) ?_
   exact W.adv 12 (W.tl (H _ gv))
 ·refine W.gf ((wi (a + e)) < (c.size : Int)) af ?_
  refine W.gf ((wi (a + e)) < (c.size : Int)) af ?_
  refine W.gf ((wi (a + e)) < (c.size : Int)) af ?_
  refine W.gf ((wi (a + e)) < (c.size : Int)) af ?_
  refine W.gf ((wi (a + e)) < (c.size : Int)) af ?_
  refine W.gf ((wi (a + e)) < (c.size : Int)) af ?_
  refine W.gf ((wi (a + e)) < (c.size : Int)) af ?_
  refine W.gf ((wi (a + e)) < (c.size : Int)) af ?_
  refine W.gf ((wi (a + e)) < (c.size : Int)) af ?_
  refine W.gf ((wi (a + e)) < (c.size : Int)) af ?_
  refine W.gf ((wi (a + e)) < (c.size : Int)) af ?_
  refine W.opS (O.pk (decide ((wi (a + e)) < (c.size : Int))) false (.tuple []) (.bool false) (decide_eq_false af)) ?_
  refine W.adv 15 ?_
  obtain ⟨gw, gy, gz, H⟩ := H
  refine W.opS (OpIs.slT_lh (k' := .i64) (k'' := .i64) (s := c) (i := a) (j := (wi (a + e))) (by kernel_rfl) gw gy gz) ?_
  refine W.adv 3 ?_
  obtain ⟨g0, H⟩ := H
  obtain ⟨b7, ef, H⟩ := H
  have g1 : (u.length + 1) = b7.length := by rw [ef, List.length_append] <;> rfl
  refine W.opK (O.apERow E_ref19_Token (.lit (.list 3 [(.agg [.int .i64 1, (.str (c.extract (a).toNat (wi (a + e)).toNat)), .int .i64 f])])) 32 135 ((jb 135).ver) 62 ((vs 62) + 1) ab 3 u [(1, (c.extract (a).toNat (wi (a + e)).toNat), f)] ef ak g0) ?_
  exact W.adv 12 (W.tl (H _ g1))
theorem ref19_All_l8_go (H : a < (c.size : Int) ∧ 0 ≤ a ∧ ((letter c a) = 10 ∧ ref19_All_l8 c (wi (f + 1)) (wi (a + 1)) z l p q ∨ ¬ (letter c a) = 10 ∧ ((letter c a) = 32 ∧ ref19_All_l8 c f (wi (a + 1)) z l p q ∨ ¬ (letter c a) = 32 ∧ ((letter c a) = 9 ∧ ref19_All_l8 c f (wi (a + 1)) z l p q ∨ ¬ (letter c a) = 9 ∧ ((letter c a) = 35 ∧ ref19_All_l10 c f a 1 z l p q ∨ ¬ (letter c a) = 35 ∧ ∃ bk, ref19_mark_R (letter c a) bk ∧ ((bk = true ∧ a ≤ (wi (a + 1)) ∧ (wi (a + 1)) ≤ (c.size : Int) ∧ (z.length + 1 + 192) * (32 + 1) ≤ 70368744177664 ∧ ∃ b8, b8 = z ++ [(3, (c.extract (a).toNat (wi (a + 1)).toNat), f)] ∧ ref19_All_l2 c f (wi (a + 1)) b8 l p q) ∨ ¬ bk = true ∧ (48 ≤ (letter c a) ∧ ((letter c a) ≤ 57 ∧ ref19_All_l11 c f a 1 z l p q ∨ ¬ (letter c a) ≤ 57 ∧ (97 ≤ (letter c a) ∧ ((letter c a) ≤ 122 ∧ ref19_All_l12 c f a 1 z l p q ∨ ¬ (letter c a) ≤ 122 ∧ l = ([] : List T_ref19_Token) ∧ p = f ∧ q = 21) ∨ ¬ 97 ≤ (letter c a) ∧ l = ([] : List T_ref19_Token) ∧ p = f ∧ q = 21)) ∨ ¬ 48 ≤ (letter c a) ∧ (97 ≤ (letter c a) ∧ ((letter c a) ≤ 122 ∧ ref19_All_l12 c f a 1 z l p q ∨ ¬ (letter c a) ≤ 122 ∧ l = ([] : List T_ref19_Token) ∧ p = f ∧ q = 21) ∨ ¬ 97 ≤ (letter c a) ∧ l = ([] : List T_ref19_Token) ∧ p = f ∧ q = 21))))))) ∨ ¬ a < (c.size : Int) ∧ l = z ∧ p = f ∧ q = 0) : ref19_All_l8 c f a z l p q := by
 intro ac al j jb vs
 refine W.adv 1 (W.adv 9 ?_)
 rcases H with ⟨cn, H⟩ | ⟨cn, H⟩
 ·refine W.ct (a < (c.size : Int)) cn ?_
  refine W.adv 7 ?_
  obtain ⟨eg, H⟩ := H
  refine W.opS (OpIs.ixT (k := .i64) (s := c) (i := a) (by kernel_rfl) eg cn) ?_
  refine W.adv 17 ?_
  rcases H with ⟨dd, H⟩ | ⟨dd, H⟩
  ·refine W.ct ((letter c a) = 10) dd ?_
   exact W.adv 15 (W.tl (H _ al))
  ·refine W.cf ((letter c a) = 10) dd ?_
   refine W.adv 5 ?_
   rcases H with ⟨bl, H⟩ | ⟨bl, H⟩
   ·refine W.gt' ((letter c a) = 32) bl ?_
    refine W.gt' ((letter c a) = 32) bl ?_
    refine W.opS (O.pk (decide ((letter c a) = 32)) true (.bool true) (.tuple []) (decide_eq_true bl)) ?_
    exact W.adv 17 (W.tl (H _ al))
   ·refine W.gf' ((letter c a) = 32) bl ?_
    refine W.adv 1 (W.gf' ((letter c a) = 32) bl ?_)
    refine W.adv 1 (W.opS (O.pk (decide ((letter c a) = 32)) false (.bool true) (.bool (decide ((letter c a) = 9))) (decide_eq_false bl)) ?_)
    refine W.adv 3 ?_
    rcases H with ⟨de, H⟩ | ⟨de, H⟩
    ·refine W.ct ((letter c a) = 9) de ?_
     exact W.adv 13 (W.tl (H _ al))
    ·refine W.cf ((letter c a) = 9) de ?_
     refine W.adv 7 ?_
     rcases H with ⟨df, H⟩ | ⟨df, H⟩
     ·refine W.ct ((letter c a) = 35) df ?_
      exact W.adv 1 (W.tl (H _ al))
     ·refine W.cf ((letter c a) = 35) df ?_
      refine W.adv 3 ?_
      obtain ⟨bk, g2, H⟩ := H
      refine W.cl 32 [(.int .u8 (letter c a))] (.bool bk) g2 ?_
      refine W.adv 3 ?_
      rcases H with ⟨dg, H⟩ | ⟨dg, H⟩
      ·refine W.cb true bk dg ?_
       refine W.adv 6 ?_
       obtain ⟨g3, g4, H⟩ := H
       refine W.opS (OpIs.slT_lh (k' := .i64) (k'' := .i64) (s := c) (i := a) (j := (wi (a + 1))) (by kernel_rfl) eg g3 g4) ?_
       refine W.adv 3 ?_
       obtain ⟨g5, H⟩ := H
       obtain ⟨b8, ei, H⟩ := H
       have g6 : (z.length + 1) = b8.length := by rw [ei, List.length_append] <;> rfl
       refine W.opK (O.apERow E_ref19_Token (.lit (.list 3 [(.agg [.int .i64 3, (.str (c.extract (a).toNat (wi (a + 1)).toNat)), .int .i64 f])])) 32 62 ((jb 62).ver) 96 ((vs 96) + 1) ac 3 z [(3, (c.extract (a).toNat (wi (a + 1)).toNat), f)] ei al g5) ?_
       exact W.adv 12 (W.tl (H _ g6))
      ·refine W.cb false bk (bfalse dg) ?_
       refine W.adv 5 ?_
       rcases H with ⟨bm, H⟩ | ⟨bm, H⟩
       ·refine W.gt (48 ≤ (letter c a)) bm ?_
        refine W.adv 1 (W.gt (48 ≤ (letter c a)) bm ?_)
        refine W.adv 1 (W.opS (O.pk (decide (48 ≤ (letter c a))) true (.bool (decide ((letter c a) ≤ 57))) (.bool false) (decide_eq_true bm)) ?_)
        refine W.adv 3 ?_
        rcases H with ⟨di, H⟩ | ⟨di, H⟩
        ·refine W.ct ((letter c a) ≤ 57) di ?_
         exact W.adv 2 (W.tl (H _ al))
        ·refine W.cf ((letter c a) ≤ 57) di ?_
         refine W.adv 5 ?_
         rcases H with ⟨bp, H⟩ | ⟨bp, H⟩
         ·refine W.gt (97 ≤ (letter c a)) bp ?_
          refine W.adv 1 (W.gt (97 ≤ (letter c a)) bp ?_)
          refine W.adv 1 (W.opS (O.pk (decide (97 ≤ (letter c a))) true (.bool (decide ((letter c a) ≤ 122))) (.bool false) (decide_eq_true bp)) ?_)
          refine W.adv 3 ?_
          rcases H with ⟨dk, H⟩ | ⟨dk, H⟩
          ·refine W.ct ((letter c a) ≤ 122) dk ?_
           exact W.adv 2 (W.tl (H _ al))
          ·refine W.cf ((letter c a) ≤ 122) dk ?_
           exact W.adv 15 (W.fr (Ans.q (.tuple [(.list 3 (([] : List T_ref19_Token).map E_ref19_Token)), .int .i64 f, .int .i64 21]) (by rw [H.1, H.2.1, H.2.2])))
         ·refine W.gf (97 ≤ (letter c a)) bp ?_
          refine W.gf (97 ≤ (letter c a)) bp ?_
          refine W.opS (O.pk (decide (97 ≤ (letter c a))) false (.tuple []) (.bool false) (decide_eq_false bp)) ?_
          exact W.adv 19 (W.fr (Ans.q (.tuple [(.list 3 (([] : List T_ref19_Token).map E_ref19_Token)), .int .i64 f, .int .i64 21]) (by rw [H.1, H.2.1, H.2.2])))
       ·refine W.gf (48 ≤ (letter c a)) bm ?_
        refine W.gf (48 ≤ (letter c a)) bm ?_
        refine W.opS (O.pk (decide (48 ≤ (letter c a))) false (.tuple []) (.bool false) (decide_eq_false bm)) ?_
        refine W.adv 9 ?_
        rcases H with ⟨bq, H⟩ | ⟨bq, H⟩
        ·refine W.gt (97 ≤ (letter c a)) bq ?_
         refine W.adv 1 (W.gt (97 ≤ (letter c a)) bq ?_)
         refine W.adv 1 (W.opS (O.pk (decide (97 ≤ (letter c a))) true (.bool (decide ((letter c a) ≤ 122))) (.bool false) (decide_eq_true bq)) ?_)
         refine W.adv 3 ?_
         rcases H with ⟨dl, H⟩ | ⟨dl, H⟩
         ·refine W.ct ((letter c a) ≤ 122) dl ?_
          exact W.adv 2 (W.tl (H _ al))
         ·refine W.cf ((letter c a) ≤ 122) dl ?_
          exact W.adv 15 (W.fr (Ans.q (.tuple [(.list 3 (([] : List T_ref19_Token).map E_ref19_Token)), .int .i64 f, .int .i64 21]) (by rw [H.1, H.2.1, H.2.2])))
        ·refine W.gf (97 ≤ (letter c a)) bq ?_
         refine W.gf (97 ≤ (letter c a)) bq ?_
         refine W.opS (O.pk (decide (97 ≤ (letter c a))) false (.tuple []) (.bool false) (decide_eq_false bq)) ?_
         exact W.adv 19 (W.fr (Ans.q (.tuple [(.list 3 (([] : List T_ref19_Token).map E_ref19_Token)), .int .i64 f, .int .i64 21]) (by rw [H.1, H.2.1, H.2.2])))
 ·refine W.cf (a < (c.size : Int)) cn ?_
  exact W.adv 15 (W.fr (Ans.of (d := (.tuple [(.sref 96 ((vs 96) + 1) 3 0 ac), .int .i64 f, .int .i64 0])) (d' := (.tuple [(.list 3 (z.map E_ref19_Token)), .int .i64 f, .int .i64 0])) (e' := (.tuple [(.list 3 (z.map E_ref19_Token)), .int .i64 f, .int .i64 0])) (by kernel_rfl) ((congrArg (fun h => reify h DEPTH (.tuple [(.sref 96 ((vs 96) + 1) 3 0 ac), .int .i64 f, .int .i64 0])) (tidy_ver (b := 96) (v := (vs 96)) (fz := false) (y := .rows 3 (z.map E_ref19_Token)) (by kernel_rfl))).trans (rf_tup (rf_cons (rf_fullE (enc := E_ref19_Token) E_ref19_Token_t (b := 96) (v := ((vs 96) + 1)) (w := ((vs 96) + 1)) (fz := false) (xs := z) (by kernel_rfl) rfl al) (rf_cons (by kernel_rfl) (rf_cons (by kernel_rfl) rf_nil))))) (by kernel_rfl) (by rw [H.1, H.2.1, H.2.2])))
theorem ref19_All_l9_go (H : a < (c.size : Int) ∧ 0 ≤ a ∧ ((letter c a) = 10 ∧ ref19_All_l9 c (wi (f + 1)) (wi (a + 1)) aa l p q ∨ ¬ (letter c a) = 10 ∧ ((letter c a) = 32 ∧ ref19_All_l9 c f (wi (a + 1)) aa l p q ∨ ¬ (letter c a) = 32 ∧ ((letter c a) = 9 ∧ ref19_All_l9 c f (wi (a + 1)) aa l p q ∨ ¬ (letter c a) = 9 ∧ ((letter c a) = 35 ∧ ref19_All_l13 c f a 1 aa l p q ∨ ¬ (letter c a) = 35 ∧ ∃ br, ref19_mark_R (letter c a) br ∧ ((br = true ∧ a ≤ (wi (a + 1)) ∧ (wi (a + 1)) ≤ (c.size : Int) ∧ (aa.length + 1 + 192) * (32 + 1) ≤ 70368744177664 ∧ ∃ b9, b9 = aa ++ [(3, (c.extract (a).toNat (wi (a + 1)).toNat), f)] ∧ ref19_All_l2 c f (wi (a + 1)) b9 l p q) ∨ ¬ br = true ∧ (48 ≤ (letter c a) ∧ ((letter c a) ≤ 57 ∧ ref19_All_l14 c f a 1 aa l p q ∨ ¬ (letter c a) ≤ 57 ∧ (97 ≤ (letter c a) ∧ ((letter c a) ≤ 122 ∧ ref19_All_l15 c f a 1 aa l p q ∨ ¬ (letter c a) ≤ 122 ∧ l = ([] : List T_ref19_Token) ∧ p = f ∧ q = 21) ∨ ¬ 97 ≤ (letter c a) ∧ l = ([] : List T_ref19_Token) ∧ p = f ∧ q = 21)) ∨ ¬ 48 ≤ (letter c a) ∧ (97 ≤ (letter c a) ∧ ((letter c a) ≤ 122 ∧ ref19_All_l15 c f a 1 aa l p q ∨ ¬ (letter c a) ≤ 122 ∧ l = ([] : List T_ref19_Token) ∧ p = f ∧ q = 21) ∨ ¬ 97 ≤ (letter c a) ∧ l = ([] : List T_ref19_Token) ∧ p = f ∧ q = 21))))))) ∨ ¬ a < (c.size : Int) ∧ l = aa ∧ p = f ∧ q = 0) : ref19_All_l9 c f a aa l p q := by
 intro ad am j jb vs
 refine W.adv 1 (W.adv 9 ?_)
 rcases H with ⟨cp, H⟩ | ⟨cp, H⟩
 ·refine W.ct (a < (c.size : Int)) cp ?_
  refine W.adv 7 ?_
  obtain ⟨ek, H⟩ := H
  refine W.opS (OpIs.ixT (k := .i64) (s := c) (i := a) (by kernel_rfl) ek cp) ?_
  refine W.adv 17 ?_
  rcases H with ⟨dm, H⟩ | ⟨dm, H⟩
  ·refine W.ct ((letter c a) = 10) dm ?_
   exact W.adv 15 (W.tl (H _ am))
  ·refine W.cf ((letter c a) = 10) dm ?_
   refine W.adv 5 ?_
   rcases H with ⟨bs, H⟩ | ⟨bs, H⟩
   ·refine W.gt' ((letter c a) = 32) bs ?_
    refine W.gt' ((letter c a) = 32) bs ?_
    refine W.opS (O.pk (decide ((letter c a) = 32)) true (.bool true) (.tuple []) (decide_eq_true bs)) ?_
    exact W.adv 17 (W.tl (H _ am))
   ·refine W.gf' ((letter c a) = 32) bs ?_
    refine W.adv 1 (W.gf' ((letter c a) = 32) bs ?_)
    refine W.adv 1 (W.opS (O.pk (decide ((letter c a) = 32)) false (.bool true) (.bool (decide ((letter c a) = 9))) (decide_eq_false bs)) ?_)
    refine W.adv 3 ?_
    rcases H with ⟨dn, H⟩ | ⟨dn, H⟩
    ·refine W.ct ((letter c a) = 9) dn ?_
     exact W.adv 13 (W.tl (H _ am))
    ·refine W.cf ((letter c a) = 9) dn ?_
     refine W.adv 7 ?_
     rcases H with ⟨dp, H⟩ | ⟨dp, H⟩
     ·refine W.ct ((letter c a) = 35) dp ?_
      exact W.adv 1 (W.tl (H _ am))
     ·refine W.cf ((letter c a) = 35) dp ?_
      refine W.adv 3 ?_
      obtain ⟨br, g7, H⟩ := H
      refine W.cl 32 [(.int .u8 (letter c a))] (.bool br) g7 ?_
      refine W.adv 3 ?_
      rcases H with ⟨dq, H⟩ | ⟨dq, H⟩
      ·refine W.cb true br dq ?_
       refine W.adv 6 ?_
       obtain ⟨g8, g9, H⟩ := H
       refine W.opS (OpIs.slT_lh (k' := .i64) (k'' := .i64) (s := c) (i := a) (j := (wi (a + 1))) (by kernel_rfl) ek g8 g9) ?_
       refine W.adv 3 ?_
       obtain ⟨ia, H⟩ := H
       obtain ⟨b9, el, H⟩ := H
       have ib : (aa.length + 1) = b9.length := by rw [el, List.length_append] <;> rfl
       refine W.opK (O.apERow E_ref19_Token (.lit (.list 3 [(.agg [.int .i64 3, (.str (c.extract (a).toNat (wi (a + 1)).toNat)), .int .i64 f])])) 32 62 ((jb 62).ver) 135 ((vs 135) + 1) ad 3 aa [(3, (c.extract (a).toNat (wi (a + 1)).toNat), f)] el am ia) ?_
       exact W.adv 12 (W.tl (H _ ib))
      ·refine W.cb false br (bfalse dq) ?_
       refine W.adv 5 ?_
       rcases H with ⟨bt, H⟩ | ⟨bt, H⟩
       ·refine W.gt (48 ≤ (letter c a)) bt ?_
        refine W.adv 1 (W.gt (48 ≤ (letter c a)) bt ?_)
        refine W.adv 1 (W.opS (O.pk (decide (48 ≤ (letter c a))) true (.bool (decide ((letter c a) ≤ 57))) (.bool false) (decide_eq_true bt)) ?_)
        refine W.adv 3 ?_
        rcases H with ⟨dr, H⟩ | ⟨dr, H⟩
        ·refine W.ct ((letter c a) ≤ 57) dr ?_
         exact W.adv 2 (W.tl (H _ am))
        ·refine W.cf ((letter c a) ≤ 57) dr ?_
         refine W.adv 5 ?_
         rcases H with ⟨bu, H⟩ | ⟨bu, H⟩
         ·refine W.gt (97 ≤ (letter c a)) bu ?_
          refine W.adv 1 (W.gt (97 ≤ (letter c a)) bu ?_)
          refine W.adv 1 (W.opS (O.pk (decide (97 ≤ (letter c a))) true (.bool (decide ((letter c a) ≤ 122))) (.bool false) (decide_eq_true bu)) ?_)
          refine W.adv 3 ?_
          rcases H with ⟨dt, H⟩ | ⟨dt, H⟩
          ·refine W.ct ((letter c a) ≤ 122) dt ?_
           exact W.adv 2 (W.tl (H _ am))
          ·refine W.cf ((letter c a) ≤ 122) dt ?_
           exact W.adv 15 (W.fr (Ans.q (.tuple [(.list 3 (([] : List T_ref19_Token).map E_ref19_Token)), .int .i64 f, .int .i64 21]) (by rw [H.1, H.2.1, H.2.2])))
         ·refine W.gf (97 ≤ (letter c a)) bu ?_
          refine W.gf (97 ≤ (letter c a)) bu ?_
          refine W.opS (O.pk (decide (97 ≤ (letter c a))) false (.tuple []) (.bool false) (decide_eq_false bu)) ?_
          exact W.adv 19 (W.fr (Ans.q (.tuple [(.list 3 (([] : List T_ref19_Token).map E_ref19_Token)), .int .i64 f, .int .i64 21]) (by rw [H.1, H.2.1, H.2.2])))
       ·refine W.gf (48 ≤ (letter c a)) bt ?_
        refine W.gf (48 ≤ (letter c a)) bt ?_
        refine W.opS (O.pk (decide (48 ≤ (letter c a))) false (.tuple []) (.bool false) (decide_eq_false bt)) ?_
        refine W.adv 9 ?_
        rcases H with ⟨bv, H⟩ | ⟨bv, H⟩
        ·refine W.gt (97 ≤ (letter c a)) bv ?_
         refine W.adv 1 (W.gt (97 ≤ (letter c a)) bv ?_)
         refine W.adv 1 (W.opS (O.pk (decide (97 ≤ (letter c a))) true (.bool (decide ((letter c a) ≤ 122))) (.bool false) (decide_eq_true bv)) ?_)
         refine W.adv 3 ?_
         rcases H with ⟨du, H⟩ | ⟨du, H⟩
         ·refine W.ct ((letter c a) ≤ 122) du ?_
          exact W.adv 2 (W.tl (H _ am))
         ·refine W.cf ((letter c a) ≤ 122) du ?_
          exact W.adv 15 (W.fr (Ans.q (.tuple [(.list 3 (([] : List T_ref19_Token).map E_ref19_Token)), .int .i64 f, .int .i64 21]) (by rw [H.1, H.2.1, H.2.2])))
        ·refine W.gf (97 ≤ (letter c a)) bv ?_
         refine W.gf (97 ≤ (letter c a)) bv ?_
         refine W.opS (O.pk (decide (97 ≤ (letter c a))) false (.tuple []) (.bool false) (decide_eq_false bv)) ?_
         exact W.adv 19 (W.fr (Ans.q (.tuple [(.list 3 (([] : List T_ref19_Token).map E_ref19_Token)), .int .i64 f, .int .i64 21]) (by rw [H.1, H.2.1, H.2.2])))
 ·refine W.cf (a < (c.size : Int)) cp ?_
  exact W.adv 15 (W.fr (Ans.of (d := (.tuple [(.sref 135 ((vs 135) + 1) 3 0 ad), .int .i64 f, .int .i64 0])) (d' := (.tuple [(.list 3 (aa.map E_ref19_Token)), .int .i64 f, .int .i64 0])) (e' := (.tuple [(.list 3 (aa.map E_ref19_Token)), .int .i64 f, .int .i64 0])) (by kernel_rfl) ((congrArg (fun h => reify h DEPTH (.tuple [(.sref 135 ((vs 135) + 1) 3 0 ad), .int .i64 f, .int .i64 0])) (tidy_ver (b := 135) (v := (vs 135)) (fz := false) (y := .rows 3 (aa.map E_ref19_Token)) (by kernel_rfl))).trans (rf_tup (rf_cons (rf_fullE (enc := E_ref19_Token) E_ref19_Token_t (b := 135) (v := ((vs 135) + 1)) (w := ((vs 135) + 1)) (fz := false) (xs := aa) (by kernel_rfl) rfl am) (rf_cons (by kernel_rfl) (rf_cons (by kernel_rfl) rf_nil))))) (by kernel_rfl) (by rw [H.1, H.2.1, H.2.2])))
theorem ref19_All_l10_go (H : (wi (a + e)) < (c.size : Int) ∧ 0 ≤ (wi (a + e)) ∧ ((letter c (wi (a + e))) = 10 ∧ ref19_All_l8 c f (wi (a + e)) z l p q ∨ ¬ (letter c (wi (a + e))) = 10 ∧ ref19_All_l10 c f a (wi (e + 1)) z l p q) ∨ ¬ (wi (a + e)) < (c.size : Int) ∧ ref19_All_l8 c f (wi (a + e)) z l p q) : ref19_All_l10 c f a e z l p q := by
 intro ac al j jb vs
 refine W.adv 1 (W.adv 10 ?_)
 rcases H with ⟨au, H⟩ | ⟨au, H⟩
 ·refine W.gt ((wi (a + e)) < (c.size : Int)) au ?_
  refine W.adv 1 (W.gt ((wi (a + e)) < (c.size : Int)) au ?_)
  refine W.adv 1 (W.gt ((wi (a + e)) < (c.size : Int)) au ?_)
  refine W.adv 1 (W.gt ((wi (a + e)) < (c.size : Int)) au ?_)
  refine W.adv 1 (W.gt ((wi (a + e)) < (c.size : Int)) au ?_)
  obtain ⟨id, H⟩ := H
  refine W.opS (OpIs.ixT (k := .i64) (s := c) (i := (wi (a + e))) (by kernel_rfl) id au) ?_
  refine W.gt ((wi (a + e)) < (c.size : Int)) au ?_
  refine W.adv 1 (W.opS (O.pk (decide ((wi (a + e)) < (c.size : Int))) true (.bool (!(decide ((letter c (wi (a + e))) = 10)))) (.bool false) (decide_eq_true au)) ?_)
  refine W.adv 2 ?_
  rcases H with ⟨dw, H⟩ | ⟨dw, H⟩
  ·refine W.cb false (!(decide ((letter c (wi (a + e))) = 10))) (congrArg (fun b => !b) (decide_eq_true dw)) ?_
   exact W.adv 14 (W.tl (H _ al))
  ·refine W.cb true (!(decide ((letter c (wi (a + e))) = 10))) (congrArg (fun b => !b) (decide_eq_false dw)) ?_
   exact W.adv 10 (W.tl (H _ al))
 ·refine W.gf ((wi (a + e)) < (c.size : Int)) au ?_
  refine W.gf ((wi (a + e)) < (c.size : Int)) au ?_
  refine W.gf ((wi (a + e)) < (c.size : Int)) au ?_
  refine W.gf ((wi (a + e)) < (c.size : Int)) au ?_
  refine W.gf ((wi (a + e)) < (c.size : Int)) au ?_
  refine W.gf ((wi (a + e)) < (c.size : Int)) au ?_
  refine W.opS (O.pk (decide ((wi (a + e)) < (c.size : Int))) false (.tuple []) (.bool false) (decide_eq_false au)) ?_
  exact W.adv 17 (W.tl (H _ al))
theorem ref19_All_l11_go (H : ((wi (a + e)) < (c.size : Int) ∧ 0 ≤ (wi (a + e)) ∧ ∃ a4, ref19_figure_R (letter c (wi (a + e))) a4 ∧ (a4 = true ∧ ref19_All_l11 c f a (wi (e + 1)) z l p q ∨ ¬ a4 = true ∧ 0 ≤ a ∧ a ≤ (wi (a + e)) ∧ (wi (a + e)) ≤ (c.size : Int) ∧ (z.length + 1 + 192) * (32 + 1) ≤ 70368744177664 ∧ ∃ ca, ca = z ++ [(2, (c.extract (a).toNat (wi (a + e)).toNat), f)] ∧ ref19_All_l8 c f (wi (a + e)) ca l p q)) ∨ ¬ (wi (a + e)) < (c.size : Int) ∧ 0 ≤ a ∧ a ≤ (wi (a + e)) ∧ (wi (a + e)) ≤ (c.size : Int) ∧ (z.length + 1 + 192) * (32 + 1) ≤ 70368744177664 ∧ ∃ cc, cc = z ++ [(2, (c.extract (a).toNat (wi (a + e)).toNat), f)] ∧ ref19_All_l8 c f (wi (a + e)) cc l p q) : ref19_All_l11 c f a e z l p q := by
 intro ac al j jb vs
 refine W.adv 1 (W.adv 10 ?_)
 rcases H with ⟨av, H⟩ | ⟨av, H⟩
 ·refine W.gt ((wi (a + e)) < (c.size : Int)) av ?_
  refine W.adv 1 (W.gt ((wi (a + e)) < (c.size : Int)) av ?_)
  refine W.adv 1 (W.gt ((wi (a + e)) < (c.size : Int)) av ?_)
  refine W.adv 1 (W.gt ((wi (a + e)) < (c.size : Int)) av ?_)
  refine W.adv 1 (W.gt ((wi (a + e)) < (c.size : Int)) av ?_)
  obtain ⟨ie, H⟩ := H
  refine W.opS (OpIs.ixT (k := .i64) (s := c) (i := (wi (a + e))) (by kernel_rfl) ie av) ?_
  refine W.gt ((wi (a + e)) < (c.size : Int)) av ?_
  obtain ⟨a4, ig, H⟩ := H
  refine W.cl 33 [(.int .u8 (letter c (wi (a + e))))] (.bool a4) ig ?_
  refine W.opS (O.pk (decide ((wi (a + e)) < (c.size : Int))) true (.bool a4) (.bool false) (decide_eq_true av)) ?_
  refine W.adv 2 ?_
  rcases H with ⟨dy, H⟩ | ⟨dy, H⟩
  ·refine W.cb true a4 dy ?_
   exact W.adv 10 (W.tl (H _ al))
  ·refine W.cb false a4 (bfalse dy) ?_
   refine W.adv 12 ?_
   obtain ⟨ii, ik, il, H⟩ := H
   refine W.opS (OpIs.slT_lh (k' := .i64) (k'' := .i64) (s := c) (i := a) (j := (wi (a + e))) (by kernel_rfl) ii ik il) ?_
   refine W.adv 3 ?_
   obtain ⟨im, H⟩ := H
   obtain ⟨ca, em, H⟩ := H
   have ip : (z.length + 1) = ca.length := by rw [em, List.length_append] <;> rfl
   refine W.opK (O.apERow E_ref19_Token (.lit (.list 3 [(.agg [.int .i64 2, (.str (c.extract (a).toNat (wi (a + e)).toNat)), .int .i64 f])])) 32 96 ((vs 96) + 1) 96 ((vs 96) + 1) ac 3 z [(2, (c.extract (a).toNat (wi (a + e)).toNat), f)] em al im) ?_
   exact W.adv 12 (W.tl (H _ ip))
 ·refine W.gf ((wi (a + e)) < (c.size : Int)) av ?_
  refine W.gf ((wi (a + e)) < (c.size : Int)) av ?_
  refine W.gf ((wi (a + e)) < (c.size : Int)) av ?_
  refine W.gf ((wi (a + e)) < (c.size : Int)) av ?_
  refine W.gf ((wi (a + e)) < (c.size : Int)) av ?_
  refine W.gf ((wi (a + e)) < (c.size : Int)) av ?_
  refine W.opS (O.pk (decide ((wi (a + e)) < (c.size : Int))) false (.tuple []) (.bool false) (decide_eq_false av)) ?_
  refine W.adv 15 ?_
  obtain ⟨iq, ir, it, H⟩ := H
  refine W.opS (OpIs.slT_lh (k' := .i64) (k'' := .i64) (s := c) (i := a) (j := (wi (a + e))) (by kernel_rfl) iq ir it) ?_
  refine W.adv 3 ?_
  obtain ⟨iu, H⟩ := H
  obtain ⟨cc, en, H⟩ := H
  have iv : (z.length + 1) = cc.length := by rw [en, List.length_append] <;> rfl
  refine W.opK (O.apERow E_ref19_Token (.lit (.list 3 [(.agg [.int .i64 2, (.str (c.extract (a).toNat (wi (a + e)).toNat)), .int .i64 f])])) 32 96 ((vs 96) + 1) 96 ((vs 96) + 1) ac 3 z [(2, (c.extract (a).toNat (wi (a + e)).toNat), f)] en al iu) ?_
  exact W.adv 12 (W.tl (H _ iv))
theorem ref19_All_l12_go (H : ((wi (a + e)) < (c.size : Int) ∧ 0 ≤ (wi (a + e)) ∧ (wi (a + e)) ≤ (wi ((wi (a + e)) + 1)) ∧ (wi ((wi (a + e)) + 1)) ≤ (c.size : Int) ∧ (⟨#[97]⟩ : ByteArray).size + (c.extract (wi (a + e)).toNat (wi ((wi (a + e)) + 1)).toNat).size ≤ 9223372036854775807 ∧ ∃ a5, ref17_Word_R ((⟨#[97]⟩ : ByteArray) ++ (c.extract (wi (a + e)).toNat (wi ((wi (a + e)) + 1)).toNat)) a5 ∧ (a5 = true ∧ ref19_All_l12 c f a (wi (e + 1)) z l p q ∨ ¬ a5 = true ∧ 0 ≤ a ∧ a ≤ (wi (a + e)) ∧ (wi (a + e)) ≤ (c.size : Int) ∧ (z.length + 1 + 192) * (32 + 1) ≤ 70368744177664 ∧ ∃ cd, cd = z ++ [(1, (c.extract (a).toNat (wi (a + e)).toNat), f)] ∧ ref19_All_l9 c f (wi (a + e)) cd l p q)) ∨ ¬ (wi (a + e)) < (c.size : Int) ∧ 0 ≤ a ∧ a ≤ (wi (a + e)) ∧ (wi (a + e)) ≤ (c.size : Int) ∧ (z.length + 1 + 192) * (32 + 1) ≤ 70368744177664 ∧ ∃ ce, ce = z ++ [(1, (c.extract (a).toNat (wi (a + e)).toNat), f)] ∧ ref19_All_l9 c f (wi (a + e)) ce l p q) : ref19_All_l12 c f a e z l p q := by
 intro ac al j jb vs
 refine W.adv 1 (W.adv 10 ?_)
 rcases H with ⟨ag, H⟩ | ⟨ag, H⟩
 ·refine W.gt ((wi (a + e)) < (c.size : Int)) ag ?_
  refine W.adv 1 (W.gt ((wi (a + e)) < (c.size : Int)) ag ?_)
  refine W.adv 1 (W.gt ((wi (a + e)) < (c.size : Int)) ag ?_)
  refine W.adv 1 (W.gt ((wi (a + e)) < (c.size : Int)) ag ?_)
  refine W.adv 1 (W.gt ((wi (a + e)) < (c.size : Int)) ag ?_)
  refine W.adv 1 (W.gt ((wi (a + e)) < (c.size : Int)) ag ?_)
  refine W.adv 1 (W.gt ((wi (a + e)) < (c.size : Int)) ag ?_)
  refine W.adv 1 (W.gt ((wi (a + e)) < (c.size : Int)) ag ?_)
  refine W.adv 1 (W.gt ((wi (a + e)) < (c.size : Int)) ag ?_)
  obtain ⟨iw, iy, iz, H⟩ := H
  refine W.opS (OpIs.slT_lh (k' := .i64) (k'' := .i64) (s := c) (i := (wi (a + e))) (j := (wi ((wi (a + e)) + 1))) (by kernel_rfl) iw iy iz) ?_
  refine W.gt ((wi (a + e)) < (c.size : Int)) ag ?_
  obtain ⟨i0, H⟩ := H
  refine W.opS (OpIs.bn (op := .add) (x := (.str ⟨#[97]⟩)) (y := (.str (c.extract (wi (a + e)).toNat (wi ((wi (a + e)) + 1)).toNat))) (by kernel_rfl) (addS i0)) ?_
  refine W.gt ((wi (a + e)) < (c.size : Int)) ag ?_
  obtain ⟨a5, i1, H⟩ := H
  refine W.cl 34 [(.str ((⟨#[97]⟩ : ByteArray) ++ (c.extract (wi (a + e)).toNat (wi ((wi (a + e)) + 1)).toNat)))] (.bool a5) i1 ?_
  refine W.opS (O.pk (decide ((wi (a + e)) < (c.size : Int))) true (.bool a5) (.bool false) (decide_eq_true ag)) ?_
  refine W.adv 2 ?_
  rcases H with ⟨dz, H⟩ | ⟨dz, H⟩
  ·refine W.cb true a5 dz ?_
   exact W.adv 10 (W.tl (H _ al))
  ·refine W.cb false a5 (bfalse dz) ?_
   refine W.adv 12 ?_
   obtain ⟨i2, i3, i4, H⟩ := H
   refine W.opS (OpIs.slT_lh (k' := .i64) (k'' := .i64) (s := c) (i := a) (j := (wi (a + e))) (by kernel_rfl) i2 i3 i4) ?_
   refine W.adv 3 ?_
   obtain ⟨i5, H⟩ := H
   obtain ⟨cd, ep, H⟩ := H
   have i6 : (z.length + 1) = cd.length := by rw [ep, List.length_append] <;> rfl
   refine W.opK (O.apERow E_ref19_Token (.lit (.list 3 [(.agg [.int .i64 1, (.str (c.extract (a).toNat (wi (a + e)).toNat)), .int .i64 f])])) 32 135 ((jb 135).ver) 96 ((vs 96) + 1) ac 3 z [(1, (c.extract (a).toNat (wi (a + e)).toNat), f)] ep al i5) ?_
   exact W.adv 12 (W.tl (H _ i6))
 ·refine W.gf ((wi (a + e)) < (c.size : Int)) ag ?_
  refine W.gf ((wi (a + e)) < (c.size : Int)) ag ?_
  refine W.gf ((wi (a + e)) < (c.size : Int)) ag ?_
  refine W.gf ((wi (a + e)) < (c.size : Int)) ag ?_
  refine W.gf ((wi (a + e)) < (c.size : Int)) ag ?_
  refine W.gf ((wi (a + e)) < (c.size : Int)) ag ?_
  refine W.gf ((wi (a + e)) < (c.size : Int)) ag ?_
  refine W.gf ((wi (a + e)) < (c.size : Int)) ag ?_
  refine W.gf ((wi (a + e)) < (c.size : Int)) ag ?_
  refine W.gf ((wi (a + e)) < (c.size : Int)) ag ?_
  refine W.gf ((wi (a + e)) < (c.size : Int)) ag ?_
  refine W.opS (O.pk (decide ((wi (a + e)) < (c.size : Int))) false (.tuple []) (.bool false) (decide_eq_false ag)) ?_
  refine W.adv 15 ?_
  obtain ⟨i7, i8, i9, H⟩ := H
  refine W.opS (OpIs.slT_lh (k' := .i64) (k'' := .i64) (s := c) (i := a) (j := (wi (a + e))) (by kernel_rfl) i7 i8 i9) ?_
  refine W.adv 3 ?_
  obtain ⟨ka, H⟩ := H
  obtain ⟨ce, eq, H⟩ := H
  have kb : (z.length + 1) = ce.length := by rw [eq, List.length_append] <;> rfl
  refine W.opK (O.apERow E_ref19_Token (.lit (.list 3 [(.agg [.int .i64 1, (.str (c.extract (a).toNat (wi (a + e)).toNat)), .int .i64 f])])) 32 135 ((jb 135).ver) 96 ((vs 96) + 1) ac 3 z [(1, (c.extract (a).toNat (wi (a + e)).toNat), f)] eq al ka) ?_
  exact W.adv 12 (W.tl (H _ kb))
theorem ref19_All_l13_go (H : (wi (a + e)) < (c.size : Int) ∧ 0 ≤ (wi (a + e)) ∧ ((letter c (wi (a + e))) = 10 ∧ ref19_All_l9 c f (wi (a + e)) aa l p q ∨ ¬ (letter c (wi (a + e))) = 10 ∧ ref19_All_l13 c f a (wi (e + 1)) aa l p q) ∨ ¬ (wi (a + e)) < (c.size : Int) ∧ ref19_All_l9 c f (wi (a + e)) aa l p q) : ref19_All_l13 c f a e aa l p q := by
 intro ad am j jb vs
 refine W.adv 1 (W.adv 10 ?_)
 rcases H with ⟨aw, H⟩ | ⟨aw, H⟩
 ·refine W.gt ((wi (a + e)) < (c.size : Int)) aw ?_
  refine W.adv 1 (W.gt ((wi (a + e)) < (c.size : Int)) aw ?_)
  refine W.adv 1 (W.gt ((wi (a + e)) < (c.size : Int)) aw ?_)
  refine W.adv 1 (W.gt ((wi (a + e)) < (c.size : Int)) aw ?_)
  refine W.adv 1 (W.gt ((wi (a + e)) < (c.size : Int)) aw ?_)
  obtain ⟨kc, H⟩ := H
  refine W.opS (OpIs.ixT (k := .i64) (s := c) (i := (wi (a + e))) (by kernel_rfl) kc aw) ?_
  refine W.gt ((wi (a + e)) < (c.size : Int)) aw ?_
  refine W.adv 1 (W.opS (O.pk (decide ((wi (a + e)) < (c.size : Int))) true (.bool (!(decide ((letter c (wi (a + e))) = 10)))) (.bool false) (decide_eq_true aw)) ?_)
  refine W.adv 2 ?_
  rcases H with ⟨d0, H⟩ | ⟨d0, H⟩
  ·refine W.cb false (!(decide ((letter c (wi (a + e))) = 10))) (congrArg (fun b => !b) (decide_eq_true d0)) ?_
   exact W.adv 14 (W.tl (H _ am))
  ·refine W.cb true (!(decide ((letter c (wi (a + e))) = 10))) (congrArg (fun b => !b) (decide_eq_false d0)) ?_
   exact W.adv 10 (W.tl (H _ am))
 ·refine W.gf ((wi (a + e)) < (c.size : Int)) aw ?_
  refine W.gf ((wi (a + e)) < (c.size : Int)) aw ?_
  refine W.gf ((wi (a + e)) < (c.size : Int)) aw ?_
  refine W.gf ((wi (a + e)) < (c.size : Int)) aw ?_
  refine W.gf ((wi (a + e)) < (c.size : Int)) aw ?_
  refine W.gf ((wi (a + e)) < (c.size : Int)) aw ?_
  refine W.opS (O.pk (decide ((wi (a + e)) < (c.size : Int))) false (.tuple []) (.bool false) (decide_eq_false aw)) ?_
  exact W.adv 17 (W.tl (H _ am))
theorem ref19_All_l14_go (H : ((wi (a + e)) < (c.size : Int) ∧ 0 ≤ (wi (a + e)) ∧ ∃ a6, ref19_figure_R (letter c (wi (a + e))) a6 ∧ (a6 = true ∧ ref19_All_l14 c f a (wi (e + 1)) aa l p q ∨ ¬ a6 = true ∧ 0 ≤ a ∧ a ≤ (wi (a + e)) ∧ (wi (a + e)) ≤ (c.size : Int) ∧ (aa.length + 1 + 192) * (32 + 1) ≤ 70368744177664 ∧ ∃ cf, cf = aa ++ [(2, (c.extract (a).toNat (wi (a + e)).toNat), f)] ∧ ref19_All_l8 c f (wi (a + e)) cf l p q)) ∨ ¬ (wi (a + e)) < (c.size : Int) ∧ 0 ≤ a ∧ a ≤ (wi (a + e)) ∧ (wi (a + e)) ≤ (c.size : Int) ∧ (aa.length + 1 + 192) * (32 + 1) ≤ 70368744177664 ∧ ∃ cg, cg = aa ++ [(2, (c.extract (a).toNat (wi (a + e)).toNat), f)] ∧ ref19_All_l8 c f (wi (a + e)) cg l p q) : ref19_All_l14 c f a e aa l p q := by
 intro ad am j jb vs
 refine W.adv 1 (W.adv 10 ?_)
 rcases H with ⟨ay, H⟩ | ⟨ay, H⟩
 ·refine W.gt ((wi (a + e)) < (c.size : Int)) ay ?_
  refine W.adv 1 (W.gt ((wi (a + e)) < (c.size : Int)) ay ?_)
  refine W.adv 1 (W.gt ((wi (a + e)) < (c.size : Int)) ay ?_)
  refine W.adv 1 (W.gt ((wi (a + e)) < (c.size : Int)) ay ?_)
  refine W.adv 1 (W.gt ((wi (a + e)) < (c.size : Int)) ay ?_)
  obtain ⟨kd, H⟩ := H
  refine W.opS (OpIs.ixT (k := .i64) (s := c) (i := (wi (a + e))) (by kernel_rfl) kd ay) ?_
  refine W.gt ((wi (a + e)) < (c.size : Int)) ay ?_
  obtain ⟨a6, ke, H⟩ := H
  refine W.cl 33 [(.int .u8 (letter c (wi (a + e))))] (.bool a6) ke ?_
  refine W.opS (O.pk (decide ((wi (a + e)) < (c.size : Int))) true (.bool a6) (.bool false) (decide_eq_true ay)) ?_
  refine W.adv 2 ?_
  rcases H with ⟨d1, H⟩ | ⟨d1, H⟩
  ·refine W.cb true a6 d1 ?_
   exact W.adv 10 (W.tl (H _ am))
  ·refine W.cb false a6 (bfalse d1) ?_
   refine W.adv 12 ?_
   obtain ⟨kf, kg, ki, H⟩ := H
   refine W.opS (OpIs.slT_lh (k' := .i64) (k'' := .i64) (s := c) (i := a) (j := (wi (a + e))) (by kernel_rfl) kf kg ki) ?_
   refine W.adv 3 ?_
   obtain ⟨kk, H⟩ := H
   obtain ⟨cf, er, H⟩ := H
   have kl : (aa.length + 1) = cf.length := by rw [er, List.length_append] <;> rfl
   refine W.opK (O.apERow E_ref19_Token (.lit (.list 3 [(.agg [.int .i64 2, (.str (c.extract (a).toNat (wi (a + e)).toNat)), .int .i64 f])])) 32 96 ((jb 96).ver) 135 ((vs 135) + 1) ad 3 aa [(2, (c.extract (a).toNat (wi (a + e)).toNat), f)] er am kk) ?_
   exact W.adv 12 (W.tl (H _ kl))
 ·refine W.gf ((wi (a + e)) < (c.size : Int)) ay ?_
  refine W.gf ((wi (a + e)) < (c.size : Int)) ay ?_
  refine W.gf ((wi (a + e)) < (c.size : Int)) ay ?_
  refine W.gf ((wi (a + e)) < (c.size : Int)) ay ?_
  refine W.gf ((wi (a + e)) < (c.size : Int)) ay ?_
  refine W.gf ((wi (a + e)) < (c.size : Int)) ay ?_
  refine W.opS (O.pk (decide ((wi (a + e)) < (c.size : Int))) false (.tuple []) (.bool false) (decide_eq_false ay)) ?_
  refine W.adv 15 ?_
  obtain ⟨km, kn, kp, H⟩ := H
  refine W.opS (OpIs.slT_lh (k' := .i64) (k'' := .i64) (s := c) (i := a) (j := (wi (a + e))) (by kernel_rfl) km kn kp) ?_
  refine W.adv 3 ?_
  obtain ⟨kq, H⟩ := H
  obtain ⟨cg, et, H⟩ := H
  have kr : (aa.length + 1) = cg.length := by rw [et, List.length_append] <;> rfl
  refine W.opK (O.apERow E_ref19_Token (.lit (.list 3 [(.agg [.int .i64 2, (.str (c.extract (a).toNat (wi (a + e)).toNat)), .int .i64 f])])) 32 96 ((jb 96).ver) 135 ((vs 135) + 1) ad 3 aa [(2, (c.extract (a).toNat (wi (a + e)).toNat), f)] et am kq) ?_
  exact W.adv 12 (W.tl (H _ kr))
theorem ref19_All_l15_go (H : ((wi (a + e)) < (c.size : Int) ∧ 0 ≤ (wi (a + e)) ∧ (wi (a + e)) ≤ (wi ((wi (a + e)) + 1)) ∧ (wi ((wi (a + e)) + 1)) ≤ (c.size : Int) ∧ (⟨#[97]⟩ : ByteArray).size + (c.extract (wi (a + e)).toNat (wi ((wi (a + e)) + 1)).toNat).size ≤ 9223372036854775807 ∧ ∃ a7, ref17_Word_R ((⟨#[97]⟩ : ByteArray) ++ (c.extract (wi (a + e)).toNat (wi ((wi (a + e)) + 1)).toNat)) a7 ∧ (a7 = true ∧ ref19_All_l15 c f a (wi (e + 1)) aa l p q ∨ ¬ a7 = true ∧ 0 ≤ a ∧ a ≤ (wi (a + e)) ∧ (wi (a + e)) ≤ (c.size : Int) ∧ (aa.length + 1 + 192) * (32 + 1) ≤ 70368744177664 ∧ ∃ ci, ci = aa ++ [(1, (c.extract (a).toNat (wi (a + e)).toNat), f)] ∧ ref19_All_l9 c f (wi (a + e)) ci l p q)) ∨ ¬ (wi (a + e)) < (c.size : Int) ∧ 0 ≤ a ∧ a ≤ (wi (a + e)) ∧ (wi (a + e)) ≤ (c.size : Int) ∧ (aa.length + 1 + 192) * (32 + 1) ≤ 70368744177664 ∧ ∃ ck, ck = aa ++ [(1, (c.extract (a).toNat (wi (a + e)).toNat), f)] ∧ ref19_All_l9 c f (wi (a + e)) ck l p q) : ref19_All_l15 c f a e aa l p q := by
 intro ad am j jb vs
 refine W.adv 1 (W.adv 10 ?_)
 rcases H with ⟨ai, H⟩ | ⟨ai, H⟩
 ·refine W.gt ((wi (a + e)) < (c.size : Int)) ai ?_
  refine W.adv 1 (W.gt ((wi (a + e)) < (c.size : Int)) ai ?_)
  refine W.adv 1 (W.gt ((wi (a + e)) < (c.size : Int)) ai ?_)
  refine W.adv 1 (W.gt ((wi (a + e)) < (c.size : Int)) ai ?_)
  refine W.adv 1 (W.gt ((wi (a + e)) < (c.size : Int)) ai ?_)
  refine W.adv 1 (W.gt ((wi (a + e)) < (c.size : Int)) ai ?_)
  refine W.adv 1 (W.gt ((wi (a + e)) < (c.size : Int)) ai ?_)
  refine W.adv 1 (W.gt ((wi (a + e)) < (c.size : Int)) ai ?_)
  refine W.adv 1 (W.gt ((wi (a + e)) < (c.size : Int)) ai ?_)
  obtain ⟨ks, kt, ku, H⟩ := H
  refine W.opS (OpIs.slT_lh (k' := .i64) (k'' := .i64) (s := c) (i := (wi (a + e))) (j := (wi ((wi (a + e)) + 1))) (by kernel_rfl) ks kt ku) ?_
  refine W.gt ((wi (a + e)) < (c.size : Int)) ai ?_
  obtain ⟨kv, H⟩ := H
  refine W.opS (OpIs.bn (op := .add) (x := (.str ⟨#[97]⟩)) (y := (.str (c.extract (wi (a + e)).toNat (wi ((wi (a + e)) + 1)).toNat))) (by kernel_rfl) (addS kv)) ?_
  refine W.gt ((wi (a + e)) < (c.size : Int)) ai ?_
  obtain ⟨a7, kw, H⟩ := H
  refine W.cl 34 [(.str ((⟨#[97]⟩ : ByteArray) ++ (c.extract (wi (a + e)).toNat (wi ((wi (a + e)) + 1)).toNat)))] (.bool a7) kw ?_
  refine W.opS (O.pk (decide ((wi (a + e)) < (c.size : Int))) true (.bool a7) (.bool false) (decide_eq_true ai)) ?_
  refine W.adv 2 ?_
  rcases H with ⟨d2, H⟩ | ⟨d2, H⟩
  ·refine W.cb true a7 d2 ?_
   exact W.adv 10 (W.tl (H _ am))
  ·refine W.cb false a7 (bfalse d2) ?_
   refine W.adv 12 ?_
   obtain ⟨ky, kz, k0, H⟩ := H
   refine W.opS (OpIs.slT_lh (k' := .i64) (k'' := .i64) (s := c) (i := a) (j := (wi (a + e))) (by kernel_rfl) ky kz k0) ?_
   refine W.adv 3 ?_
   obtain ⟨k1, H⟩ := H
   obtain ⟨ci, eu, H⟩ := H
   have k2 : (aa.length + 1) = ci.length := by rw [eu, List.length_append] <;> rfl
   refine W.opK (O.apERow E_ref19_Token (.lit (.list 3 [(.agg [.int .i64 1, (.str (c.extract (a).toNat (wi (a + e)).toNat)), .int .i64 f])])) 32 135 ((vs 135) + 1) 135 ((vs 135) + 1) ad 3 aa [(1, (c.extract (a).toNat (wi (a + e)).toNat), f)] eu am k1) ?_
   exact W.adv 12 (W.tl (H _ k2))
 ·refine W.gf ((wi (a + e)) < (c.size : Int)) ai ?_
  refine W.gf ((wi (a + e)) < (c.size : Int)) ai ?_
  refine W.gf ((wi (a + e)) < (c.size : Int)) ai ?_
  refine W.gf ((wi (a + e)) < (c.size : Int)) ai ?_
  refine W.gf ((wi (a + e)) < (c.size : Int)) ai ?_
  refine W.gf ((wi (a + e)) < (c.size : Int)) ai ?_
  refine W.gf ((wi (a + e)) < (c.size : Int)) ai ?_
  refine W.gf ((wi (a + e)) < (c.size : Int)) ai ?_
  refine W.gf ((wi (a + e)) < (c.size : Int)) ai ?_
  refine W.gf ((wi (a + e)) < (c.size : Int)) ai ?_
  refine W.gf ((wi (a + e)) < (c.size : Int)) ai ?_
  refine W.opS (O.pk (decide ((wi (a + e)) < (c.size : Int))) false (.tuple []) (.bool false) (decide_eq_false ai)) ?_
  refine W.adv 15 ?_
  obtain ⟨k3, k4, k5, H⟩ := H
  refine W.opS (OpIs.slT_lh (k' := .i64) (k'' := .i64) (s := c) (i := a) (j := (wi (a + e))) (by kernel_rfl) k3 k4 k5) ?_
  refine W.adv 3 ?_
  obtain ⟨k6, H⟩ := H
  obtain ⟨ck, ev, H⟩ := H
  have k7 : (aa.length + 1) = ck.length := by rw [ev, List.length_append] <;> rfl
  refine W.opK (O.apERow E_ref19_Token (.lit (.list 3 [(.agg [.int .i64 1, (.str (c.extract (a).toNat (wi (a + e)).toNat)), .int .i64 f])])) 32 135 ((vs 135) + 1) 135 ((vs 135) + 1) ad 3 aa [(1, (c.extract (a).toNat (wi (a + e)).toNat), f)] ev am k6) ?_
  exact W.adv 12 (W.tl (H _ k7))
theorem ref19_All_go (H : ref19_All_l0 cq 1 0 l p q) : ref19_All_R cq l p q := by
 refine W.ii Try.func14 ?_
 exact W.adv 21 (W.tl H)
end
end Go.Proofs.YtlpbmajbalenjaaA
