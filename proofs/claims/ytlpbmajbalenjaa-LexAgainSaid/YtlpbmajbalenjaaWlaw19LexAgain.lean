/- Walks through the functions: what makes each relation true. -/
import Derived.Test.YtlpbmajbalenjaaW0
set_option linter.unusedVariables false
set_option maxRecDepth 100000
namespace Go.Proofs.YtlpbmajbalenjaaA
open Go Go.Proofs
section
variable (a : List T_lex_Token) (af : ByteArray) (v : Int) (aa : List T_lex_Token) (k : Int) (ae : ByteArray) (z : Bool)
noncomputable def law19_LexAgain_l0_s (j : Nat → D) (jb : Nat → Blk) (vs : Nat → Nat) : Cf := cfAt Try.f5 [1, 1, 1, 1, 1, 1, 1, 1, 1, 1, 0, 1, 0] ⟨(J j 0 8 ++ ([(.list 3 (a.map E_lex_Token)), j 9, j 10, .str af, .int .i64 v] ++ J j 13 125)), (J jb 0 138)⟩
def law19_LexAgain_l0 : Prop := ∀ j jb vs, W C F 5 0 (law19_LexAgain_l0_s a af v  j jb vs) (LAns C Try.f5 z)
noncomputable def law19_LexAgain_l1_s (j : Nat → D) (jb : Nat → Blk) (vs : Nat → Nat) : Cf := cfAt Try.f5 [1, 1, 1, 1, 1, 1, 1, 1, 1, 1, 1, 1, 1, 0, 1, 0] ⟨(J j 0 8 ++ ([(.list 3 (a.map E_lex_Token))] ++ (J j 9 4 ++ ([(.list 3 (aa.map E_lex_Token)), j 14, j 15, .int .i64 k] ++ J j 17 121)))), (J jb 0 138)⟩
def law19_LexAgain_l1 : Prop := ∀ j jb vs, W C F 5 0 (law19_LexAgain_l1_s a aa k  j jb vs) (LAns C Try.f5 z)
variable {a af v aa k ae z}
theorem law19_LexAgain_l0_go (H : (v < (a.length : Int) ∧ 0 ≤ v ∧ ∃ a7 am a8, a.getD (v).toNat (0, ByteArray.empty, 0) = (a7, am, a8) ∧ am.size + (⟨#[32]⟩ : ByteArray).size ≤ 9223372036854775807 ∧ af.size + (am ++ (⟨#[32]⟩ : ByteArray)).size ≤ 9223372036854775807 ∧ law19_LexAgain_l0 a (af ++ (am ++ (⟨#[32]⟩ : ByteArray))) (wi (v + 1)) z) ∨ ¬ v < (a.length : Int) ∧ ∃ ag q al, lex_All_R af ag q al ∧ (al = 0 ∧ (q = 1 ∧ ((ag.length : Int) = (a.length : Int) ∧ law19_LexAgain_l1 a ag 0 z ∨ ¬ (ag.length : Int) = (a.length : Int) ∧ (z = false)) ∨ ¬ q = 1 ∧ (z = false)) ∨ ¬ al = 0 ∧ (z = false))) : law19_LexAgain_l0 a af v z := by
 intro j jb vs
 refine W.adv 1 (W.adv 5 ?_)
 refine W.opS (O.ln a E_lex_Token) ?_
 refine W.adv 3 ?_
 rcases H with ⟨a6, H⟩ | ⟨a6, H⟩
 ·refine W.ct (v < (a.length : Int)) a6 ?_
  refine W.adv 8 ?_
  obtain ⟨bw, H⟩ := H
  obtain ⟨a7, am, a8, bz, H⟩ := H
  refine W.opS (O.ixE E_lex_Token 3 .i64 a v (0, ByteArray.empty, 0) (a7, am, a8) bw a6 bz) ?_
  refine W.adv 2 ?_
  obtain ⟨b0, H⟩ := H
  refine W.opS (OpIs.bn (op := .add) (x := (.str am)) (y := (.str ⟨#[32]⟩)) (by kernel_rfl) (addS b0)) ?_
  obtain ⟨b1, H⟩ := H
  refine W.opS (OpIs.bn (op := .add) (x := (.str af)) (y := (.str (am ++ (⟨#[32]⟩ : ByteArray)))) (by kernel_rfl) (addS b1)) ?_
  exact W.adv 10 (W.tl (P := law19_LexAgain_l0_s a (af ++ (am ++ (⟨#[32]⟩ : ByteArray))) (wi (v + 1))) H)
 ·refine W.cf (v < (a.length : Int)) a6 ?_
  refine W.adv 8 ?_
  obtain ⟨ag, q, al, b2, H⟩ := H
  refine W.cl 13 [.str af] (.tuple [(.list 3 (ag.map E_lex_Token)), .int .i64 q, .int .i64 al]) b2 ?_
  refine W.adv 15 ?_
  rcases H with ⟨aw, H⟩ | ⟨aw, H⟩
  ·refine W.gb true ((!(decide (al = 0))) == false) (congrArg (fun b => b == false) (congrArg (fun b => !b) (decide_eq_true aw))) ?_
   refine W.adv 1 (W.gb true ((!(decide (al = 0))) == false) (congrArg (fun b => b == false) (congrArg (fun b => !b) (decide_eq_true aw))) ?_)
   refine W.adv 1 (W.opS (O.pk (!(decide (al = 0))) false (.bool true) (.bool (!(decide (q = 1)))) (congrArg (fun b => !b) (decide_eq_true aw))) ?_)
   refine W.adv 1 ?_
   rcases H with ⟨ad, H⟩ | ⟨ad, H⟩
   ·refine W.gb true ((!(decide (q = 1))) == false) (congrArg (fun b => b == false) (congrArg (fun b => !b) (decide_eq_true ad))) ?_
    refine W.adv 1 (W.gb true ((!(decide (q = 1))) == false) (congrArg (fun b => b == false) (congrArg (fun b => !b) (decide_eq_true ad))) ?_)
    refine W.opS (O.ln ag E_lex_Token) ?_
    refine W.gb true ((!(decide (q = 1))) == false) (congrArg (fun b => b == false) (congrArg (fun b => !b) (decide_eq_true ad))) ?_
    refine W.adv 1 (W.gb true ((!(decide (q = 1))) == false) (congrArg (fun b => b == false) (congrArg (fun b => !b) (decide_eq_true ad))) ?_)
    refine W.opS (O.ln a E_lex_Token) ?_
    refine W.gb true ((!(decide (q = 1))) == false) (congrArg (fun b => b == false) (congrArg (fun b => !b) (decide_eq_true ad))) ?_
    refine W.adv 1 (W.opS (O.pk (!(decide (q = 1))) false (.bool true) (.bool (!(decide ((ag.length : Int) = (a.length : Int))))) (congrArg (fun b => !b) (decide_eq_true ad))) ?_)
    refine W.adv 2 ?_
    rcases H with ⟨a9, H⟩ | ⟨a9, H⟩
    ·refine W.cb false (!(decide ((ag.length : Int) = (a.length : Int)))) (congrArg (fun b => !b) (decide_eq_true a9)) ?_
     exact W.adv 9 (W.tl H)
    ·refine W.cb true (!(decide ((ag.length : Int) = (a.length : Int)))) (congrArg (fun b => !b) (decide_eq_false a9)) ?_
     exact W.adv 7 (W.fr (LAns.of (d := (.bool false)) (by kernel_rfl) (by rw [H])))
   ·refine W.gb false ((!(decide (q = 1))) == false) (congrArg (fun b => b == false) (congrArg (fun b => !b) (decide_eq_false ad))) ?_
    refine W.gb false ((!(decide (q = 1))) == false) (congrArg (fun b => b == false) (congrArg (fun b => !b) (decide_eq_false ad))) ?_
    refine W.gb false ((!(decide (q = 1))) == false) (congrArg (fun b => b == false) (congrArg (fun b => !b) (decide_eq_false ad))) ?_
    refine W.gb false ((!(decide (q = 1))) == false) (congrArg (fun b => b == false) (congrArg (fun b => !b) (decide_eq_false ad))) ?_
    refine W.gb false ((!(decide (q = 1))) == false) (congrArg (fun b => b == false) (congrArg (fun b => !b) (decide_eq_false ad))) ?_
    refine W.opS (O.pk (!(decide (q = 1))) true (.bool true) (.tuple []) (congrArg (fun b => !b) (decide_eq_false ad))) ?_
    exact W.adv 10 (W.fr (LAns.of (d := (.bool false)) (by kernel_rfl) (by rw [H])))
  ·refine W.gb false ((!(decide (al = 0))) == false) (congrArg (fun b => b == false) (congrArg (fun b => !b) (decide_eq_false aw))) ?_
   refine W.gb false ((!(decide (al = 0))) == false) (congrArg (fun b => b == false) (congrArg (fun b => !b) (decide_eq_false aw))) ?_
   refine W.opS (O.pk (!(decide (al = 0))) true (.bool true) (.tuple []) (congrArg (fun b => !b) (decide_eq_false aw))) ?_
   exact W.adv 17 (W.fr (LAns.of (d := (.bool false)) (by kernel_rfl) (by rw [H])))
theorem law19_LexAgain_l1_go (H : (k < (a.length : Int) ∧ 0 ≤ k ∧ k < (aa.length : Int) ∧ ∃ c ba bb, aa.getD (k).toNat (0, ByteArray.empty, 0) = (c, ba, bb) ∧ ∃ e bc bd, a.getD (k).toNat (0, ByteArray.empty, 0) = (e, bc, bd) ∧ ((c = e ∧ ∃ be l bf, aa.getD (k).toNat (0, ByteArray.empty, 0) = (be, l, bf) ∧ ∃ bg p bi, a.getD (k).toNat (0, ByteArray.empty, 0) = (bg, p, bi) ∧ ((l = p ∧ ∃ bk bl au, aa.getD (k).toNat (0, ByteArray.empty, 0) = (bk, bl, au) ∧ (au = 1 ∧ law19_LexAgain_l1 a aa (wi (k + 1)) z ∨ ¬ au = 1 ∧ (z = false))) ∨ ¬ l = p ∧ (z = false))) ∨ ¬ c = e ∧ (z = false))) ∨ ¬ k < (a.length : Int) ∧ (z = true)) : law19_LexAgain_l1 a aa k z := by
 intro j jb vs
 refine W.adv 1 (W.adv 5 ?_)
 refine W.opS (O.ln a E_lex_Token) ?_
 refine W.adv 3 ?_
 rcases H with ⟨a3, H⟩ | ⟨a3, H⟩
 ·refine W.ct (k < (a.length : Int)) a3 ?_
  refine W.adv 8 ?_
  obtain ⟨a4, bm, H⟩ := H
  obtain ⟨c, ba, bb, b3, H⟩ := H
  refine W.opS (O.ixE E_lex_Token 3 .i64 aa k (0, ByteArray.empty, 0) (c, ba, bb) a4 bm b3) ?_
  refine W.adv 4 ?_
  obtain ⟨e, bc, bd, b4, H⟩ := H
  refine W.opS (O.ixE E_lex_Token 3 .i64 a k (0, ByteArray.empty, 0) (e, bc, bd) a4 a3 b4) ?_
  refine W.adv 4 ?_
  rcases H with ⟨f, H⟩ | ⟨f, H⟩
  ·refine W.gb true ((!(decide (c = e))) == false) (congrArg (fun b => b == false) (congrArg (fun b => !b) (decide_eq_true f))) ?_
   refine W.adv 1 (W.gb true ((!(decide (c = e))) == false) (congrArg (fun b => b == false) (congrArg (fun b => !b) (decide_eq_true f))) ?_)
   refine W.adv 1 (W.gb true ((!(decide (c = e))) == false) (congrArg (fun b => b == false) (congrArg (fun b => !b) (decide_eq_true f))) ?_)
   obtain ⟨be, l, bf, b5, H⟩ := H
   refine W.opS (O.ixE E_lex_Token 3 .i64 aa k (0, ByteArray.empty, 0) (be, l, bf) a4 bm b5) ?_
   refine W.gb true ((!(decide (c = e))) == false) (congrArg (fun b => b == false) (congrArg (fun b => !b) (decide_eq_true f))) ?_
   refine W.adv 1 (W.gb true ((!(decide (c = e))) == false) (congrArg (fun b => b == false) (congrArg (fun b => !b) (decide_eq_true f))) ?_)
   refine W.adv 1 (W.gb true ((!(decide (c = e))) == false) (congrArg (fun b => b == false) (congrArg (fun b => !b) (decide_eq_true f))) ?_)
   refine W.adv 1 (W.gb true ((!(decide (c = e))) == false) (congrArg (fun b => b == false) (congrArg (fun b => !b) (decide_eq_true f))) ?_)
   refine W.adv 1 (W.gb true ((!(decide (c = e))) == false) (congrArg (fun b => b == false) (congrArg (fun b => !b) (decide_eq_true f))) ?_)
   obtain ⟨bg, p, bi, b6, H⟩ := H
   refine W.opS (O.ixE E_lex_Token 3 .i64 a k (0, ByteArray.empty, 0) (bg, p, bi) a4 a3 b6) ?_
   refine W.gb true ((!(decide (c = e))) == false) (congrArg (fun b => b == false) (congrArg (fun b => !b) (decide_eq_true f))) ?_
   refine W.adv 1 (W.gb true ((!(decide (c = e))) == false) (congrArg (fun b => b == false) (congrArg (fun b => !b) (decide_eq_true f))) ?_)
   refine W.adv 1 (W.gb true ((!(decide (c = e))) == false) (congrArg (fun b => b == false) (congrArg (fun b => !b) (decide_eq_true f))) ?_)
   refine W.adv 1 (W.opS (O.pk (!(decide (c = e))) false (.bool true) (.bool (!(decide (l = p)))) (congrArg (fun b => !b) (decide_eq_true f))) ?_)
   refine W.adv 1 ?_
   rcases H with ⟨u, H⟩ | ⟨u, H⟩
   ·refine W.gb true ((!(decide (l = p))) == false) (congrArg (fun b => b == false) (congrArg (fun b => !b) (decide_eq_true u))) ?_
    refine W.adv 1 (W.gb true ((!(decide (l = p))) == false) (congrArg (fun b => b == false) (congrArg (fun b => !b) (decide_eq_true u))) ?_)
    refine W.adv 1 (W.gb true ((!(decide (l = p))) == false) (congrArg (fun b => b == false) (congrArg (fun b => !b) (decide_eq_true u))) ?_)
    obtain ⟨bk, bl, au, b7, H⟩ := H
    refine W.opS (O.ixE E_lex_Token 3 .i64 aa k (0, ByteArray.empty, 0) (bk, bl, au) a4 bm b7) ?_
    refine W.gb true ((!(decide (l = p))) == false) (congrArg (fun b => b == false) (congrArg (fun b => !b) (decide_eq_true u))) ?_
    refine W.adv 1 (W.gb true ((!(decide (l = p))) == false) (congrArg (fun b => b == false) (congrArg (fun b => !b) (decide_eq_true u))) ?_)
    refine W.adv 1 (W.gb true ((!(decide (l = p))) == false) (congrArg (fun b => b == false) (congrArg (fun b => !b) (decide_eq_true u))) ?_)
    refine W.adv 1 (W.opS (O.pk (!(decide (l = p))) false (.bool true) (.bool (!(decide (au = 1)))) (congrArg (fun b => !b) (decide_eq_true u))) ?_)
    refine W.adv 2 ?_
    rcases H with ⟨bp, H⟩ | ⟨bp, H⟩
    ·refine W.cb false (!(decide (au = 1))) (congrArg (fun b => !b) (decide_eq_true bp)) ?_
     exact W.adv 9 (W.tl H)
    ·refine W.cb true (!(decide (au = 1))) (congrArg (fun b => !b) (decide_eq_false bp)) ?_
     exact W.adv 11 (W.fr (LAns.of (d := (.bool false)) (by kernel_rfl) (by rw [H])))
   ·refine W.gb false ((!(decide (l = p))) == false) (congrArg (fun b => b == false) (congrArg (fun b => !b) (decide_eq_false u))) ?_
    refine W.gb false ((!(decide (l = p))) == false) (congrArg (fun b => b == false) (congrArg (fun b => !b) (decide_eq_false u))) ?_
    refine W.gb false ((!(decide (l = p))) == false) (congrArg (fun b => b == false) (congrArg (fun b => !b) (decide_eq_false u))) ?_
    refine W.gb false ((!(decide (l = p))) == false) (congrArg (fun b => b == false) (congrArg (fun b => !b) (decide_eq_false u))) ?_
    refine W.gb false ((!(decide (l = p))) == false) (congrArg (fun b => b == false) (congrArg (fun b => !b) (decide_eq_false u))) ?_
    refine W.gb false ((!(decide (l = p))) == false) (congrArg (fun b => b == false) (congrArg (fun b => !b) (decide_eq_false u))) ?_
    refine W.opS (O.pk (!(decide (l = p))) true (.bool true) (.tuple []) (congrArg (fun b => !b) (decide_eq_false u))) ?_
    exact W.adv 14 (W.fr (LAns.of (d := (.bool false)) (by kernel_rfl) (by rw [H])))
  ·refine W.gb false ((!(decide (c = e))) == false) (congrArg (fun b => b == false) (congrArg (fun b => !b) (decide_eq_false f))) ?_
   refine W.gb false ((!(decide (c = e))) == false) (congrArg (fun b => b == false) (congrArg (fun b => !b) (decide_eq_false f))) ?_
   refine W.gb false ((!(decide (c = e))) == false) (congrArg (fun b => b == false) (congrArg (fun b => !b) (decide_eq_false f))) ?_
   refine W.gb false ((!(decide (c = e))) == false) (congrArg (fun b => b == false) (congrArg (fun b => !b) (decide_eq_false f))) ?_
   refine W.gb false ((!(decide (c = e))) == false) (congrArg (fun b => b == false) (congrArg (fun b => !b) (decide_eq_false f))) ?_
   refine W.gb false ((!(decide (c = e))) == false) (congrArg (fun b => b == false) (congrArg (fun b => !b) (decide_eq_false f))) ?_
   refine W.gb false ((!(decide (c = e))) == false) (congrArg (fun b => b == false) (congrArg (fun b => !b) (decide_eq_false f))) ?_
   refine W.gb false ((!(decide (c = e))) == false) (congrArg (fun b => b == false) (congrArg (fun b => !b) (decide_eq_false f))) ?_
   refine W.gb false ((!(decide (c = e))) == false) (congrArg (fun b => b == false) (congrArg (fun b => !b) (decide_eq_false f))) ?_
   refine W.gb false ((!(decide (c = e))) == false) (congrArg (fun b => b == false) (congrArg (fun b => !b) (decide_eq_false f))) ?_
   refine W.gb false ((!(decide (c = e))) == false) (congrArg (fun b => b == false) (congrArg (fun b => !b) (decide_eq_false f))) ?_
   refine W.opS (O.pk (!(decide (c = e))) true (.bool true) (.tuple []) (congrArg (fun b => !b) (decide_eq_false f))) ?_
   exact W.adv 22 (W.fr (LAns.of (d := (.bool false)) (by kernel_rfl) (by rw [H])))
 ·refine W.cf (k < (a.length : Int)) a3 ?_
  exact W.adv 11 (W.fr (LAns.of (d := (.bool true)) (by kernel_rfl) (by rw [H])))
theorem law19_LexAgain_go (H : ∃ ay, law19_works_R ay ∧ ((ay = true ∧ ∃ bq an, __lex_Reader__Name_v0_R bq an ∧ ∃ br ab, __lex_Reader__Figure_v0_R br ab ∧ (an = true ∧ (z = false) ∨ ¬ an = true ∧ (ab = true ∧ (z = false) ∨ ¬ ab = true ∧ ∃ ac, __lex_Reader__Done_v0_R ac ∧ ((ac = true ∧ ∃ ai, __lex_Reader__Line_v0_R ai ∧ ((ai = 0 ∧ ∃ ak, __lex_Reader__Is_v0_R (⟨#[]⟩) ak ∧ (ak = true ∧ (z = false) ∨ ¬ ak = true ∧ ∃ av, __lex_Reader__Take_v0_R (⟨#[]⟩) av ∧ (av = true ∧ (z = false) ∨ ¬ av = true ∧ 0 ≤ (mn (ae.size : Int) 400) ∧ (mn (ae.size : Int) 400) ≤ (ae.size : Int) ∧ ∃ ap bs az, lex_All_R (ae.extract 0 (mn (ae.size : Int) 400).toNat) ap bs az ∧ (az = 0 ∧ law19_LexAgain_l0 ap (⟨#[]⟩) 0 z ∨ ¬ az = 0 ∧ (z = (decide ((ap.length : Int) = 0))))))) ∨ ¬ ai = 0 ∧ (z = false))) ∨ ¬ ac = true ∧ (z = false))))) ∨ ¬ ay = true ∧ (z = false))) : law19_LexAgain_R ae z := by
 refine W.li Try.func5 ?_
 refine W.adv 8 ?_
 obtain ⟨ay, b8, H⟩ := H
 refine W.cl 15 [] (.bool ay) b8 ?_
 refine W.adv 3 ?_
 rcases H with ⟨bt, H⟩ | ⟨bt, H⟩
 ·refine W.cb false (!ay) (congrArg (fun b => !b) bt) ?_
  refine W.adv 10 ?_
  obtain ⟨bq, an, b9, H⟩ := H
  refine W.cl 16 [.nilP] (.tuple [.str bq, .bool an]) b9 ?_
  refine W.adv 10 ?_
  obtain ⟨br, ab, ca, H⟩ := H
  refine W.cl 17 [.nilP] (.tuple [.str br, .bool ab]) ca ?_
  refine W.adv 12 ?_
  rcases H with ⟨a5, H⟩ | ⟨a5, H⟩
  ·refine W.gb false (an == false) (congrArg (fun b => b == false) a5) ?_
   refine W.opS (O.pk an true (.bool true) (.tuple []) a5) ?_
   exact W.adv 28 (W.fr (LAns.of (d := (.bool false)) (by kernel_rfl) (by rw [H])))
  ·refine W.gb true (an == false) (congrArg (fun b => b == false) (bfalse a5)) ?_
   refine W.adv 1 (W.opS (O.pk an false (.bool true) (.bool ab) (bfalse a5)) ?_)
   refine W.adv 1 ?_
   rcases H with ⟨aq, H⟩ | ⟨aq, H⟩
   ·refine W.gb false (ab == false) (congrArg (fun b => b == false) aq) ?_
    refine W.gb false (ab == false) (congrArg (fun b => b == false) aq) ?_
    refine W.gb false (ab == false) (congrArg (fun b => b == false) aq) ?_
    refine W.opS (O.pk ab true (.bool true) (.tuple []) aq) ?_
    exact W.adv 23 (W.fr (LAns.of (d := (.bool false)) (by kernel_rfl) (by rw [H])))
   ·refine W.gb true (ab == false) (congrArg (fun b => b == false) (bfalse aq)) ?_
    refine W.adv 1 (W.gb true (ab == false) (congrArg (fun b => b == false) (bfalse aq)) ?_)
    obtain ⟨ac, cc, H⟩ := H
    refine W.cl 18 [.nilP] (.bool ac) cc ?_
    refine W.gb true (ab == false) (congrArg (fun b => b == false) (bfalse aq)) ?_
    refine W.adv 1 (W.opS (O.pk ab false (.bool true) (.bool (!ac)) (bfalse aq)) ?_)
    refine W.adv 1 ?_
    rcases H with ⟨ar, H⟩ | ⟨ar, H⟩
    ·refine W.gb true ((!ac) == false) (congrArg (fun b => b == false) (congrArg (fun b => !b) ar)) ?_
     refine W.adv 1 (W.gb true ((!ac) == false) (congrArg (fun b => b == false) (congrArg (fun b => !b) ar)) ?_)
     obtain ⟨ai, cd, H⟩ := H
     refine W.cl 19 [.nilP] (.int .i64 ai) cd ?_
     refine W.gb true ((!ac) == false) (congrArg (fun b => b == false) (congrArg (fun b => !b) ar)) ?_
     refine W.adv 1 (W.opS (O.pk (!ac) false (.bool true) (.bool (!(decide (ai = 0)))) (congrArg (fun b => !b) ar)) ?_)
     refine W.adv 1 ?_
     rcases H with ⟨a1, H⟩ | ⟨a1, H⟩
     ·refine W.gb true ((!(decide (ai = 0))) == false) (congrArg (fun b => b == false) (congrArg (fun b => !b) (decide_eq_true a1))) ?_
      refine W.adv 1 (W.gb true ((!(decide (ai = 0))) == false) (congrArg (fun b => b == false) (congrArg (fun b => !b) (decide_eq_true a1))) ?_)
      obtain ⟨ak, ce, H⟩ := H
      refine W.cl 20 [.nilP, .str ⟨#[]⟩] (.bool ak) ce ?_
      refine W.opS (O.pk (!(decide (ai = 0))) false (.bool true) (.bool ak) (congrArg (fun b => !b) (decide_eq_true a1))) ?_
      refine W.adv 1 ?_
      rcases H with ⟨a2, H⟩ | ⟨a2, H⟩
      ·refine W.gb false (ak == false) (congrArg (fun b => b == false) a2) ?_
       refine W.gb false (ak == false) (congrArg (fun b => b == false) a2) ?_
       refine W.opS (O.pk ak true (.bool true) (.tuple []) a2) ?_
       exact W.adv 10 (W.fr (LAns.of (d := (.bool false)) (by kernel_rfl) (by rw [H])))
      ·refine W.gb true (ak == false) (congrArg (fun b => b == false) (bfalse a2)) ?_
       refine W.adv 1 (W.gb true (ak == false) (congrArg (fun b => b == false) (bfalse a2)) ?_)
       obtain ⟨av, cf, H⟩ := H
       refine W.cl 21 [.nilP, .str ⟨#[]⟩] (.bool av) cf ?_
       refine W.opS (O.pk ak false (.bool true) (.bool av) (bfalse a2)) ?_
       refine W.adv 2 ?_
       rcases H with ⟨bu, H⟩ | ⟨bu, H⟩
       ·refine W.cb true av bu ?_
        exact W.adv 7 (W.fr (LAns.of (d := (.bool false)) (by kernel_rfl) (by rw [H])))
       ·refine W.cb false av (bfalse bu) ?_
        refine W.adv 8 ?_
        obtain ⟨cg, ci, H⟩ := H
        refine W.opS (OpIs.slT_hi (k' := .i64) (s := ae) (i := (mn (ae.size : Int) 400)) (by kernel_rfl) cg ci) ?_
        refine W.adv 6 ?_
        obtain ⟨ap, bs, az, ck, H⟩ := H
        refine W.cl 13 [(.str (ae.extract 0 (mn (ae.size : Int) 400).toNat))] (.tuple [(.list 3 (ap.map E_lex_Token)), .int .i64 bs, .int .i64 az]) ck ?_
        refine W.adv 16 ?_
        rcases H with ⟨bv, H⟩ | ⟨bv, H⟩
        ·refine W.cb false (!(decide (az = 0))) (congrArg (fun b => !b) (decide_eq_true bv)) ?_
         exact W.adv 14 (W.tl H)
        ·refine W.cb true (!(decide (az = 0))) (congrArg (fun b => !b) (decide_eq_false bv)) ?_
         refine W.adv 3 (W.opS (O.ln ap E_lex_Token) ?_)
         exact W.adv 6 (W.fr (LAns.of (d := (.bool (decide ((ap.length : Int) = 0)))) (by kernel_rfl) (by rw [H])))
     ·refine W.gb false ((!(decide (ai = 0))) == false) (congrArg (fun b => b == false) (congrArg (fun b => !b) (decide_eq_false a1))) ?_
      refine W.gb false ((!(decide (ai = 0))) == false) (congrArg (fun b => b == false) (congrArg (fun b => !b) (decide_eq_false a1))) ?_
      refine W.opS (O.pk (!(decide (ai = 0))) true (.bool true) (.tuple []) (congrArg (fun b => !b) (decide_eq_false a1))) ?_
      exact W.adv 14 (W.fr (LAns.of (d := (.bool false)) (by kernel_rfl) (by rw [H])))
    ·refine W.gb false ((!ac) == false) (congrArg (fun b => b == false) (congrArg (fun b => !b) (bfalse ar))) ?_
     refine W.gb false ((!ac) == false) (congrArg (fun b => b == false) (congrArg (fun b => !b) (bfalse ar))) ?_
     refine W.gb false ((!ac) == false) (congrArg (fun b => b == false) (congrArg (fun b => !b) (bfalse ar))) ?_
     refine W.opS (O.pk (!ac) true (.bool true) (.tuple []) (congrArg (fun b => !b) (bfalse ar))) ?_
     exact W.adv 18 (W.fr (LAns.of (d := (.bool false)) (by kernel_rfl) (by rw [H])))
 ·refine W.cb true (!ay) (congrArg (fun b => !b) (bfalse bt)) ?_
  exact W.adv 7 (W.fr (LAns.of (d := (.bool false)) (by kernel_rfl) (by rw [H])))
end
end Go.Proofs.YtlpbmajbalenjaaA
