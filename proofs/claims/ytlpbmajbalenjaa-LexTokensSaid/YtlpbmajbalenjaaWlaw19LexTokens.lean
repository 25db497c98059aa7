/- Walks through the functions: what makes each relation true. -/
import Derived.Test.YtlpbmajbalenjaaW0
set_option linter.unusedVariables false
set_option maxRecDepth 100000
namespace Go.Proofs.YtlpbmajbalenjaaA
open Go Go.Proofs
section
variable (q : List T_lex_Token) (ab : List T_ref19_Token) (k : Int) (u : ByteArray) (z : Bool)
noncomputable def law19_LexTokens_l0_s (j : Nat → D) (jb : Nat → Blk) (vs : Nat → Nat) : Cf := cfAt Try.f4 [1, 1, 1, 1, 1, 0, 1, 0] ⟨([j 0, j 1, j 2, (.list 3 (q.map E_lex_Token)), j 4, j 5, (.list 3 (ab.map E_ref19_Token)), j 7, j 8, .int .i64 k] ++ J j 10 76), (J jb 0 86)⟩
def law19_LexTokens_l0 : Prop := ∀ j jb vs, W C F 4 0 (law19_LexTokens_l0_s q ab k  j jb vs) (LAns C Try.f4 z)
variable {q ab k u z}
theorem law19_LexTokens_l0_go (H : (k < (q.length : Int) ∧ 0 ≤ k ∧ ∃ e aq ar, q.getD (k).toNat (0, ByteArray.empty, 0) = (e, aq, ar) ∧ k < (ab.length : Int) ∧ ∃ f au av, ab.getD (k).toNat (0, ByteArray.empty, 0) = (f, au, av) ∧ ((e = f ∧ ∃ aw a ay, q.getD (k).toNat (0, ByteArray.empty, 0) = (aw, a, ay) ∧ ∃ az c a1, ab.getD (k).toNat (0, ByteArray.empty, 0) = (az, c, a1) ∧ ((a = c ∧ ∃ a2 a3 ak, q.getD (k).toNat (0, ByteArray.empty, 0) = (a2, a3, ak) ∧ ∃ a4 a5 al, ab.getD (k).toNat (0, ByteArray.empty, 0) = (a4, a5, al) ∧ (ak = al ∧ law19_LexTokens_l0 q ab (wi (k + 1)) z ∨ ¬ ak = al ∧ (z = false))) ∨ ¬ a = c ∧ (z = false))) ∨ ¬ e = f ∧ (z = false))) ∨ ¬ k < (q.length : Int) ∧ ∃ ap, law19_works_R ap ∧ (z = ap)) : law19_LexTokens_l0 q ab k z := by
 intro j jb vs
 refine W.adv 1 (W.adv 5 ?_)
 refine W.opS (O.ln q E_lex_Token) ?_
 refine W.adv 3 ?_
 rcases H with ⟨am, H⟩ | ⟨am, H⟩
 ·refine W.ct (k < (q.length : Int)) am ?_
  refine W.adv 8 ?_
  obtain ⟨an, H⟩ := H
  obtain ⟨e, aq, ar, a9, H⟩ := H
  refine W.opS (O.ixE E_lex_Token 3 .i64 q k (0, ByteArray.empty, 0) (e, aq, ar) an am a9) ?_
  refine W.adv 4 ?_
  obtain ⟨a6, H⟩ := H
  obtain ⟨f, au, av, ba, H⟩ := H
  refine W.opS (O.ixE E_ref19_Token 3 .i64 ab k (0, ByteArray.empty, 0) (f, au, av) an a6 ba) ?_
  refine W.adv 4 ?_
  rcases H with ⟨l, H⟩ | ⟨l, H⟩
  ·refine W.gb true ((!(decide (e = f))) == false) (congrArg (fun b => b == false) (congrArg (fun b => !b) (decide_eq_true l))) ?_
   refine W.adv 1 (W.gb true ((!(decide (e = f))) == false) (congrArg (fun b => b == false) (congrArg (fun b => !b) (decide_eq_true l))) ?_)
   refine W.adv 1 (W.gb true ((!(decide (e = f))) == false) (congrArg (fun b => b == false) (congrArg (fun b => !b) (decide_eq_true l))) ?_)
   obtain ⟨aw, a, ay, bb, H⟩ := H
   refine W.opS (O.ixE E_lex_Token 3 .i64 q k (0, ByteArray.empty, 0) (aw, a, ay) an am bb) ?_
   refine W.gb true ((!(decide (e = f))) == false) (congrArg (fun b => b == false) (congrArg (fun b => !b) (decide_eq_true l))) ?_
   refine W.adv 1 (W.gb true ((!(decide (e = f))) == false) (congrArg (fun b => b == false) (congrArg (fun b => !b) (decide_eq_true l))) ?_)
   refine W.adv 1 (W.gb true ((!(decide (e = f))) == false) (congrArg (fun b => b == false) (congrArg (fun b => !b) (decide_eq_true l))) ?_)
   refine W.adv 1 (W.gb true ((!(decide (e = f))) == false) (congrArg (fun b => b == false) (congrArg (fun b => !b) (decide_eq_true l))) ?_)
   refine W.adv 1 (W.gb true ((!(decide (e = f))) == false) (congrArg (fun b => b == false) (congrArg (fun b => !b) (decide_eq_true l))) ?_)
   obtain ⟨az, c, a1, bc, H⟩ := H
   refine W.opS (O.ixE E_ref19_Token 3 .i64 ab k (0, ByteArray.empty, 0) (az, c, a1) an a6 bc) ?_
   refine W.gb true ((!(decide (e = f))) == false) (congrArg (fun b => b == false) (congrArg (fun b => !b) (decide_eq_true l))) ?_
   refine W.adv 1 (W.gb true ((!(decide (e = f))) == false) (congrArg (fun b => b == false) (congrArg (fun b => !b) (decide_eq_true l))) ?_)
   refine W.adv 1 (W.gb true ((!(decide (e = f))) == false) (congrArg (fun b => b == false) (congrArg (fun b => !b) (decide_eq_true l))) ?_)
   refine W.adv 1 (W.opS (O.pk (!(decide (e = f))) false (.bool true) (.bool (!(decide (a = c)))) (congrArg (fun b => !b) (decide_eq_true l))) ?_)
   refine W.adv 1 ?_
   rcases H with ⟨p, H⟩ | ⟨p, H⟩
   ·refine W.gb true ((!(decide (a = c))) == false) (congrArg (fun b => b == false) (congrArg (fun b => !b) (decide_eq_true p))) ?_
    refine W.adv 1 (W.gb true ((!(decide (a = c))) == false) (congrArg (fun b => b == false) (congrArg (fun b => !b) (decide_eq_true p))) ?_)
    refine W.adv 1 (W.gb true ((!(decide (a = c))) == false) (congrArg (fun b => b == false) (congrArg (fun b => !b) (decide_eq_true p))) ?_)
    obtain ⟨a2, a3, ak, bd, H⟩ := H
    refine W.opS (O.ixE E_lex_Token 3 .i64 q k (0, ByteArray.empty, 0) (a2, a3, ak) an am bd) ?_
    refine W.gb true ((!(decide (a = c))) == false) (congrArg (fun b => b == false) (congrArg (fun b => !b) (decide_eq_true p))) ?_
    refine W.adv 1 (W.gb true ((!(decide (a = c))) == false) (congrArg (fun b => b == false) (congrArg (fun b => !b) (decide_eq_true p))) ?_)
    refine W.adv 1 (W.gb true ((!(decide (a = c))) == false) (congrArg (fun b => b == false) (congrArg (fun b => !b) (decide_eq_true p))) ?_)
    refine W.adv 1 (W.gb true ((!(decide (a = c))) == false) (congrArg (fun b => b == false) (congrArg (fun b => !b) (decide_eq_true p))) ?_)
    refine W.adv 1 (W.gb true ((!(decide (a = c))) == false) (congrArg (fun b => b == false) (congrArg (fun b => !b) (decide_eq_true p))) ?_)
    obtain ⟨a4, a5, al, be, H⟩ := H
    refine W.opS (O.ixE E_ref19_Token 3 .i64 ab k (0, ByteArray.empty, 0) (a4, a5, al) an a6 be) ?_
    refine W.gb true ((!(decide (a = c))) == false) (congrArg (fun b => b == false) (congrArg (fun b => !b) (decide_eq_true p))) ?_
    refine W.adv 1 (W.gb true ((!(decide (a = c))) == false) (congrArg (fun b => b == false) (congrArg (fun b => !b) (decide_eq_true p))) ?_)
    refine W.adv 1 (W.gb true ((!(decide (a = c))) == false) (congrArg (fun b => b == false) (congrArg (fun b => !b) (decide_eq_true p))) ?_)
    refine W.adv 1 (W.opS (O.pk (!(decide (a = c))) false (.bool true) (.bool (!(decide (ak = al)))) (congrArg (fun b => !b) (decide_eq_true p))) ?_)
    refine W.adv 2 ?_
    rcases H with ⟨a7, H⟩ | ⟨a7, H⟩
    ·refine W.cb false (!(decide (ak = al))) (congrArg (fun b => !b) (decide_eq_true a7)) ?_
     exact W.adv 9 (W.tl H)
    ·refine W.cb true (!(decide (ak = al))) (congrArg (fun b => !b) (decide_eq_false a7)) ?_
     exact W.adv 11 (W.fr (LAns.of (d := (.bool false)) (by kernel_rfl) (by rw [H])))
   ·refine W.gb false ((!(decide (a = c))) == false) (congrArg (fun b => b == false) (congrArg (fun b => !b) (decide_eq_false p))) ?_
    refine W.gb false ((!(decide (a = c))) == false) (congrArg (fun b => b == false) (congrArg (fun b => !b) (decide_eq_false p))) ?_
    refine W.gb false ((!(decide (a = c))) == false) (congrArg (fun b => b == false) (congrArg (fun b => !b) (decide_eq_false p))) ?_
    refine W.gb false ((!(decide (a = c))) == false) (congrArg (fun b => b == false) (congrArg (fun b => !b) (decide_eq_false p))) ?_
    refine W.gb false ((!(decide (a = c))) == false) (congrArg (fun b => b == false) (congrArg (fun b => !b) (decide_eq_false p))) ?_
    refine W.gb false ((!(decide (a = c))) == false) (congrArg (fun b => b == false) (congrArg (fun b => !b) (decide_eq_false p))) ?_
    refine W.gb false ((!(decide (a = c))) == false) (congrArg (fun b => b == false) (congrArg (fun b => !b) (decide_eq_false p))) ?_
    refine W.gb false ((!(decide (a = c))) == false) (congrArg (fun b => b == false) (congrArg (fun b => !b) (decide_eq_false p))) ?_
    refine W.gb false ((!(decide (a = c))) == false) (congrArg (fun b => b == false) (congrArg (fun b => !b) (decide_eq_false p))) ?_
    refine W.gb false ((!(decide (a = c))) == false) (congrArg (fun b => b == false) (congrArg (fun b => !b) (decide_eq_false p))) ?_
    refine W.gb false ((!(decide (a = c))) == false) (congrArg (fun b => b == false) (congrArg (fun b => !b) (decide_eq_false p))) ?_
    refine W.opS (O.pk (!(decide (a = c))) true (.bool true) (.tuple []) (congrArg (fun b => !b) (decide_eq_false p))) ?_
    exact W.adv 14 (W.fr (LAns.of (d := (.bool false)) (by kernel_rfl) (by rw [H])))
  ·refine W.gb false ((!(decide (e = f))) == false) (congrArg (fun b => b == false) (congrArg (fun b => !b) (decide_eq_false l))) ?_
   refine W.gb false ((!(decide (e = f))) == false) (congrArg (fun b => b == false) (congrArg (fun b => !b) (decide_eq_false l))) ?_
   refine W.gb false ((!(decide (e = f))) == false) (congrArg (fun b => b == false) (congrArg (fun b => !b) (decide_eq_false l))) ?_
   refine W.gb false ((!(decide (e = f))) == false) (congrArg (fun b => b == false) (congrArg (fun b => !b) (decide_eq_false l))) ?_
   refine W.gb false ((!(decide (e = f))) == false) (congrArg (fun b => b == false) (congrArg (fun b => !b) (decide_eq_false l))) ?_
   refine W.gb false ((!(decide (e = f))) == false) (congrArg (fun b => b == false) (congrArg (fun b => !b) (decide_eq_false l))) ?_
   refine W.gb false ((!(decide (e = f))) == false) (congrArg (fun b => b == false) (congrArg (fun b => !b) (decide_eq_false l))) ?_
   refine W.gb false ((!(decide (e = f))) == false) (congrArg (fun b => b == false) (congrArg (fun b => !b) (decide_eq_false l))) ?_
   refine W.gb false ((!(decide (e = f))) == false) (congrArg (fun b => b == false) (congrArg (fun b => !b) (decide_eq_false l))) ?_
   refine W.gb false ((!(decide (e = f))) == false) (congrArg (fun b => b == false) (congrArg (fun b => !b) (decide_eq_false l))) ?_
   refine W.gb false ((!(decide (e = f))) == false) (congrArg (fun b => b == false) (congrArg (fun b => !b) (decide_eq_false l))) ?_
   refine W.opS (O.pk (!(decide (e = f))) true (.bool true) (.tuple []) (congrArg (fun b => !b) (decide_eq_false l))) ?_
   exact W.adv 27 (W.fr (LAns.of (d := (.bool false)) (by kernel_rfl) (by rw [H])))
 ·refine W.cf (k < (q.length : Int)) am ?_
  refine W.adv 7 ?_
  obtain ⟨ap, bf, H⟩ := H
  refine W.cl 15 [] (.bool ap) bf ?_
  exact W.adv 4 (W.fr (LAns.of (d := (.bool ap)) (by kernel_rfl) (by rw [H])))
theorem law19_LexTokens_go (H : 0 ≤ (mn (u.size : Int) 400) ∧ (mn (u.size : Int) 400) ≤ (u.size : Int) ∧ ∃ af ac v, lex_All_R (u.extract 0 (mn (u.size : Int) 400).toNat) af ac v ∧ ∃ ag ad aa, ref19_All_R (u.extract 0 (mn (u.size : Int) 400).toNat) ag ad aa ∧ (ac = ad ∧ (v = aa ∧ ((af.length : Int) = (ag.length : Int) ∧ law19_LexTokens_l0 af ag 0 z ∨ ¬ (af.length : Int) = (ag.length : Int) ∧ (z = false)) ∨ ¬ v = aa ∧ (z = false)) ∨ ¬ ac = ad ∧ (z = false))) : law19_LexTokens_R u z := by
 refine W.li Try.func4 ?_
 refine W.adv 11 ?_
 obtain ⟨bg, bi, H⟩ := H
 refine W.opS (OpIs.slT_hi (k' := .i64) (s := u) (i := (mn (u.size : Int) 400)) (by kernel_rfl) bg bi) ?_
 refine W.adv 6 ?_
 obtain ⟨af, ac, v, bk, H⟩ := H
 refine W.cl 13 [(.str (u.extract 0 (mn (u.size : Int) 400).toNat))] (.tuple [(.list 3 (af.map E_lex_Token)), .int .i64 ac, .int .i64 v]) bk ?_
 refine W.adv 12 ?_
 obtain ⟨ag, ad, aa, bl, H⟩ := H
 refine W.cl 14 [(.str (u.extract 0 (mn (u.size : Int) 400).toNat))] (.tuple [(.list 3 (ag.map E_ref19_Token)), .int .i64 ad, .int .i64 aa]) bl ?_
 refine W.adv 16 ?_
 rcases H with ⟨ai, H⟩ | ⟨ai, H⟩
 ·refine W.gb true ((!(decide (ac = ad))) == false) (congrArg (fun b => b == false) (congrArg (fun b => !b) (decide_eq_true ai))) ?_
  refine W.adv 1 (W.gb true ((!(decide (ac = ad))) == false) (congrArg (fun b => b == false) (congrArg (fun b => !b) (decide_eq_true ai))) ?_)
  refine W.adv 1 (W.gb true ((!(decide (ac = ad))) == false) (congrArg (fun b => b == false) (congrArg (fun b => !b) (decide_eq_true ai))) ?_)
  refine W.adv 1 (W.opS (O.pk (!(decide (ac = ad))) false (.bool true) (.bool (!(decide (v = aa)))) (congrArg (fun b => !b) (decide_eq_true ai))) ?_)
  refine W.adv 1 ?_
  rcases H with ⟨ae, H⟩ | ⟨ae, H⟩
  ·refine W.gb true ((!(decide (v = aa))) == false) (congrArg (fun b => b == false) (congrArg (fun b => !b) (decide_eq_true ae))) ?_
   refine W.adv 1 (W.gb true ((!(decide (v = aa))) == false) (congrArg (fun b => b == false) (congrArg (fun b => !b) (decide_eq_true ae))) ?_)
   refine W.opS (O.ln af E_lex_Token) ?_
   refine W.gb true ((!(decide (v = aa))) == false) (congrArg (fun b => b == false) (congrArg (fun b => !b) (decide_eq_true ae))) ?_
   refine W.adv 1 (W.gb true ((!(decide (v = aa))) == false) (congrArg (fun b => b == false) (congrArg (fun b => !b) (decide_eq_true ae))) ?_)
   refine W.opS (O.ln ag E_ref19_Token) ?_
   refine W.gb true ((!(decide (v = aa))) == false) (congrArg (fun b => b == false) (congrArg (fun b => !b) (decide_eq_true ae))) ?_
   refine W.adv 1 (W.opS (O.pk (!(decide (v = aa))) false (.bool true) (.bool (!(decide ((af.length : Int) = (ag.length : Int))))) (congrArg (fun b => !b) (decide_eq_true ae))) ?_)
   refine W.adv 2 ?_
   rcases H with ⟨a8, H⟩ | ⟨a8, H⟩
   ·refine W.cb false (!(decide ((af.length : Int) = (ag.length : Int)))) (congrArg (fun b => !b) (decide_eq_true a8)) ?_
    exact W.adv 9 (W.tl H)
   ·refine W.cb true (!(decide ((af.length : Int) = (ag.length : Int)))) (congrArg (fun b => !b) (decide_eq_false a8)) ?_
    exact W.adv 7 (W.fr (LAns.of (d := (.bool false)) (by kernel_rfl) (by rw [H])))
  ·refine W.gb false ((!(decide (v = aa))) == false) (congrArg (fun b => b == false) (congrArg (fun b => !b) (decide_eq_false ae))) ?_
   refine W.gb false ((!(decide (v = aa))) == false) (congrArg (fun b => b == false) (congrArg (fun b => !b) (decide_eq_false ae))) ?_
   refine W.gb false ((!(decide (v = aa))) == false) (congrArg (fun b => b == false) (congrArg (fun b => !b) (decide_eq_false ae))) ?_
   refine W.gb false ((!(decide (v = aa))) == false) (congrArg (fun b => b == false) (congrArg (fun b => !b) (decide_eq_false ae))) ?_
   refine W.gb false ((!(decide (v = aa))) == false) (congrArg (fun b => b == false) (congrArg (fun b => !b) (decide_eq_false ae))) ?_
   refine W.opS (O.pk (!(decide (v = aa))) true (.bool true) (.tuple []) (congrArg (fun b => !b) (decide_eq_false ae))) ?_
   exact W.adv 10 (W.fr (LAns.of (d := (.bool false)) (by kernel_rfl) (by rw [H])))
 ·refine W.gb false ((!(decide (ac = ad))) == false) (congrArg (fun b => b == false) (congrArg (fun b => !b) (decide_eq_false ai))) ?_
  refine W.gb false ((!(decide (ac = ad))) == false) (congrArg (fun b => b == false) (congrArg (fun b => !b) (decide_eq_false ai))) ?_
  refine W.gb false ((!(decide (ac = ad))) == false) (congrArg (fun b => b == false) (congrArg (fun b => !b) (decide_eq_false ai))) ?_
  refine W.opS (O.pk (!(decide (ac = ad))) true (.bool true) (.tuple []) (congrArg (fun b => !b) (decide_eq_false ai))) ?_
  exact W.adv 17 (W.fr (LAns.of (d := (.bool false)) (by kernel_rfl) (by rw [H])))
end
end Go.Proofs.YtlpbmajbalenjaaA
