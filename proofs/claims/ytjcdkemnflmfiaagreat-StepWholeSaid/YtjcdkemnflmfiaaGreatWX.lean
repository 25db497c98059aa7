/- Walks through the functions: what makes each relation true. -/
import Derived.Test.YtjcdkemnflmfiaaGreatW0
set_option linter.unusedVariables false
set_option maxRecDepth 100000
namespace Go.Proofs.YtjcdkemnflmfiaaGreatA
open Go Go.Proofs
end Go.Proofs.YtjcdkemnflmfiaaGreatA
namespace Go.Proofs.YtjcdkemnflmfiaaGreatA
open Go Go.Proofs
end Go.Proofs.YtjcdkemnflmfiaaGreatA
namespace Go.Proofs.YtjcdkemnflmfiaaGreatA
open Go Go.Proofs
theorem formed_Node_1_v0_go {a : ByteArray} {c : List T_api_Prefix} {b : ByteArray} {z : Bool} (H : (z = (decide (a = b)))) : formed_Node_1_v0_R a c b z := by
 refine W.ii Tryz.func155 ?_
 exact W.adv 16 (W.fr (Ans.o (.bool (decide (a = b))) (by rw [H])))
end Go.Proofs.YtjcdkemnflmfiaaGreatA
namespace Go.Proofs.YtjcdkemnflmfiaaGreatA
open Go Go.Proofs
theorem formed_Link_1_v0_go {a c e : ByteArray} {f : Bool} {g i : List Int} {b : ByteArray} {z : Bool} (H : (z = (decide (a = b)))) : formed_Link_1_v0_R a c e f g i b z := by
 refine W.ii Tryz.func153 ?_
 exact W.adv 16 (W.fr (Ans.o (.bool (decide (a = b))) (by rw [H])))
end Go.Proofs.YtjcdkemnflmfiaaGreatA
namespace Go.Proofs.YtjcdkemnflmfiaaGreatA
open Go Go.Proofs
theorem formed_Node_go {e : ByteArray} {b : List T_api_Node} {f : List T_api_Link} {i : List T_api_Rule} {c : ByteArray} {k : Int} {l : Bool} (H : ∃ a, slices_IndexFunc___api_Node_api_Node__v0_R b c a ∧ k = (mx a 0) ∧ l = (decide (0 ≤ a))) : formed_Node_R e b f i c k l := by
 refine W.ii Tryz.func106 ?_
 refine W.adv 13 ?_
 obtain ⟨a, m, H⟩ := H
 refine W.callR (g := 154) (ds := [(.list 2 (b.map E_api_Node)), (.fn 155 [] [.pref 3 1 0 0])]) (es := [(.list 2 (b.map E_api_Node)), (.fn 155 [] [(.ptr [.str c])])]) (r := (.int .i64 a)) (by kernel_rfl) (rf_cons (by kernel_rfl) (rf_cons (rf_fn rf_nil (rf_cons (by kernel_rfl) rf_nil)) rf_nil)) (Ic.args m (by kernel_rfl)) (by kernel_rfl) ?_
 exact W.adv 14 (W.fr (Ans.o (.tuple [(.int .i64 (mx a 0)), (.bool (decide (0 ≤ a)))]) (by rw [H.1, H.2])))
end Go.Proofs.YtjcdkemnflmfiaaGreatA
namespace Go.Proofs.YtjcdkemnflmfiaaGreatA
open Go Go.Proofs
theorem formed_Link_go {e : ByteArray} {f : List T_api_Node} {b : List T_api_Link} {i : List T_api_Rule} {c : ByteArray} {k : Int} {l : Bool} (H : ∃ a, slices_IndexFunc___api_Link_api_Link__v0_R b c a ∧ k = (mx a 0) ∧ l = (decide (0 ≤ a))) : formed_Link_R e f b i c k l := by
 refine W.ii Tryz.func105 ?_
 refine W.adv 13 ?_
 obtain ⟨a, m, H⟩ := H
 refine W.callR (g := 152) (ds := [(.list 6 (b.map E_api_Link)), (.fn 153 [] [.pref 3 1 0 0])]) (es := [(.list 6 (b.map E_api_Link)), (.fn 153 [] [(.ptr [.str c])])]) (r := (.int .i64 a)) (by kernel_rfl) (rf_cons (by kernel_rfl) (rf_cons (rf_fn rf_nil (rf_cons (by kernel_rfl) rf_nil)) rf_nil)) (Ic.args m (by kernel_rfl)) (by kernel_rfl) ?_
 exact W.adv 14 (W.fr (Ans.o (.tuple [(.int .i64 (mx a 0)), (.bool (decide (0 ≤ a)))]) (by rw [H.1, H.2])))
end Go.Proofs.YtjcdkemnflmfiaaGreatA
namespace Go.Proofs.YtjcdkemnflmfiaaGreatA
open Go Go.Proofs
theorem ref08_Back_go {e : Bool} {f i : List Int} {k : Bool} {l m : List Int} (H : ∃ a b, ref07_Back_R e f a b ∧ ∃ c, ref02_Back_R i c ∧ k = a ∧ l = b ∧ m = c) : ref08_Back_R e f i k l m := by
 refine W.ii Tryz.func14 ?_
 refine W.adv 10 ?_
 obtain ⟨a, b, n, H⟩ := H
 refine W.cl 56 [(.agg [.bool e, .ints .i64 f])] (.agg [.bool a, .ints .u64 b]) n ?_
 refine W.adv 2 ?_
 obtain ⟨c, p, H⟩ := H
 refine W.cl 57 [.ints .i64 i] (.ints .u64 c) p ?_
 exact W.adv 5 (W.fr (Ans.o (.agg [.bool a, .ints .u64 b, .ints .u64 c]) (by rw [H.1, H.2.1, H.2.2])))
theorem ref08_Low_go {c : Bool} {k l : List Int} {m : Bool} {n p : List Int} (H : ∃ f, ref02_Gcd_R k l f ∧ ∃ a q, ref02_Div_R k f a q ∧ ∃ e s, ref02_Div_R l f e s ∧ (c = true ∧ m = (decide (0 < (a.length : Int))) ∧ n = a ∧ p = e ∨ ¬ c = true ∧ m = false ∧ n = a ∧ p = e)) : ref08_Low_R c k l m n p := by
 refine W.ii Tryz.func64 ?_
 refine W.adv 11 ?_
 obtain ⟨f, u, H⟩ := H
 refine W.cl 123 [.ints .i64 k, .ints .i64 l] (.ints .i64 f) u ?_
 refine W.adv 8 ?_
 obtain ⟨a, q, v, H⟩ := H
 refine W.cl 124 [.ints .i64 k, .ints .i64 f] (.tuple [.ints .i64 a, .ints .i64 q]) v ?_
 refine W.adv 11 ?_
 obtain ⟨e, s, z, H⟩ := H
 refine W.cl 124 [.ints .i64 l, .ints .i64 f] (.tuple [.ints .i64 e, .ints .i64 s]) z ?_
 refine W.adv 12 ?_
 rcases H with ⟨i, H⟩ | ⟨i, H⟩
 ·refine W.gb true (c == true) (congrArg (fun b => b == true) i) ?_
  refine W.adv 1 (W.gb true (c == true) (congrArg (fun b => b == true) i) ?_)
  refine W.adv 1 (W.gb true (c == true) (congrArg (fun b => b == true) i) ?_)
  refine W.adv 1 (W.opS (O.pk c true (.bool (decide (0 < (a.length : Int)))) (.bool false) i) ?_)
  exact W.adv 8 (W.fr (Ans.o (.agg [(.bool (decide (0 < (a.length : Int)))), .ints .i64 a, .ints .i64 e]) (by rw [H.1, H.2.1, H.2.2])))
 ·refine W.gb false (c == true) (congrArg (fun b => b == true) (bfalse i)) ?_
  refine W.gb false (c == true) (congrArg (fun b => b == true) (bfalse i)) ?_
  refine W.gb false (c == true) (congrArg (fun b => b == true) (bfalse i)) ?_
  refine W.opS (O.pk c false (.tuple []) (.bool false) (bfalse i)) ?_
  exact W.adv 8 (W.fr (Ans.o (.agg [.bool false, .ints .i64 a, .ints .i64 e]) (by rw [H.1, H.2.1, H.2.2])))
theorem ref08_Clean_go {c : Bool} {e ak : List Int} {a : Int} {al : Bool} {am an : List Int} (H : ∃ b, ref02_Clean_R ak a b ∧ (((b.length : Int) = 0 ∧ ∃ p q, ref07_Clean_R c e a p q ∧ ∃ s t, ref07_Of_R p q s t ∧ ∃ u, ref02_Of_R [1] u ∧ ∃ v y z, ref08_Low_R s t u v y z ∧ ∃ f i k, ref08_Back_R v y z f i k ∧ al = f ∧ am = i ∧ an = k) ∨ ¬ (b.length : Int) = 0 ∧ ∃ aa ab, ref07_Clean_R c e a aa ab ∧ ∃ ac ad, ref07_Of_R aa ab ac ad ∧ ∃ ae, ref02_Of_R b ae ∧ ∃ af ag ai, ref08_Low_R ac ad ae af ag ai ∧ ∃ l m n, ref08_Back_R af ag ai l m n ∧ al = l ∧ am = m ∧ an = n)) : ref08_Clean_R c e ak a al am an := by
 refine W.ii Tryz.func98 ?_
 refine W.adv 11 ?_
 obtain ⟨b, aq, H⟩ := H
 refine W.cl 145 [.ints .u64 ak, .int .i64 a] (.ints .u64 b) aq ?_
 refine W.adv 11 ?_
 rcases H with ⟨ap, H⟩ | ⟨ap, H⟩
 ·refine W.ct ((b.length : Int) = 0) ap ?_
  refine W.adv 10 ?_
  obtain ⟨p, q, ar, H⟩ := H
  refine W.cl 146 [(.agg [.bool c, .ints .u64 e]), .int .i64 a] (.agg [.bool p, .ints .u64 q]) ar ?_
  obtain ⟨s, t, au, H⟩ := H
  refine W.cl 115 [(.agg [.bool p, .ints .u64 q])] (.agg [.bool s, .ints .i64 t]) au ?_
  refine W.adv 1 ?_
  obtain ⟨u, av, H⟩ := H
  refine W.callR (g := 116) (ds := [(.lit (.ints .u64 [1]))]) (es := [.ints .u64 [1]]) (r := (.ints .i64 u)) (by kernel_rfl) (by kernel_rfl) (Ic.args av (by kernel_rfl)) (by kernel_rfl) ?_
  obtain ⟨v, y, z, aw, H⟩ := H
  refine W.cl 64 [(.agg [.bool s, .ints .i64 t]), .ints .i64 u] (.agg [.bool v, .ints .i64 y, .ints .i64 z]) aw ?_
  obtain ⟨f, i, k, ay, H⟩ := H
  refine W.cl 14 [(.agg [.bool v, .ints .i64 y, .ints .i64 z])] (.agg [.bool f, .ints .u64 i, .ints .u64 k]) ay ?_
  exact W.adv 4 (W.fr (Ans.o (.agg [.bool f, .ints .u64 i, .ints .u64 k]) (by rw [H.1, H.2.1, H.2.2])))
 ·refine W.cf ((b.length : Int) = 0) ap ?_
  refine W.adv 7 ?_
  obtain ⟨aa, ab, az, H⟩ := H
  refine W.cl 146 [(.agg [.bool c, .ints .u64 e]), .int .i64 a] (.agg [.bool aa, .ints .u64 ab]) az ?_
  obtain ⟨ac, ad, a0, H⟩ := H
  refine W.cl 115 [(.agg [.bool aa, .ints .u64 ab])] (.agg [.bool ac, .ints .i64 ad]) a0 ?_
  refine W.adv 1 ?_
  obtain ⟨ae, a2, H⟩ := H
  refine W.cl 116 [.ints .u64 b] (.ints .i64 ae) a2 ?_
  obtain ⟨af, ag, ai, a3, H⟩ := H
  refine W.cl 64 [(.agg [.bool ac, .ints .i64 ad]), .ints .i64 ae] (.agg [.bool af, .ints .i64 ag, .ints .i64 ai]) a3 ?_
  obtain ⟨l, m, n, a4, H⟩ := H
  refine W.cl 14 [(.agg [.bool af, .ints .i64 ag, .ints .i64 ai])] (.agg [.bool l, .ints .u64 m, .ints .u64 n]) a4 ?_
  exact W.adv 4 (W.fr (Ans.o (.agg [.bool l, .ints .u64 m, .ints .u64 n]) (by rw [H.1, H.2.1, H.2.2])))
end Go.Proofs.YtjcdkemnflmfiaaGreatA
namespace Go.Proofs.YtjcdkemnflmfiaaGreatA
open Go Go.Proofs
section
variable (g : List T71) (l c : Int) (ab : List T_api_Hop) (aa t : Int) (p : List (T_string × T_bool)) (e : List T_string) (ac : D) (q : Blk) (a2 : ByteArray) (a3 a4 : Int) (a5 : Bool) (ai : List T71) (z : List T_string)
noncomputable def limits_Out_l0_s (g : List T71) (l c : Int) (p : List (T_string × T_bool)) (e : List T_string) (ac : D) (q : Blk) (j : Nat → D) (jb : Nat → Blk) (vs : Nat → Nat) : Cf := cfAt Tryz.f104 [1, 1, 1, 0, 1, 0] ⟨([j 0, j 1, j 2, .mref 9 1, ac] ++ (J j 5 6 ++ ([(.list 1 (g.map E71)), .int .i64 l, .int .i64 c] ++ J j 14 25))), (J jb 0 9 ++ ([⟨1, false, .map (mrow E_string E_bool p)⟩] ++ (J jb 10 25 ++ [q, jb 36, jb 37, jb 38])))⟩
def limits_Out_l0 : Prop := ∀ ac q, Opt E_string 35 1 ac q e → ∀ j jb vs, W C F 104 0 (limits_Out_l0_s g l c p e ac q j jb vs) (Ans C Tryz.f104 (.list 1 (z.map E_string)))
noncomputable def limits_Out_l1_s (g : List T71) (l c : Int) (ab : List T_api_Hop) (aa t : Int) (p : List (T_string × T_bool)) (e : List T_string) (ac : D) (q : Blk) (j : Nat → D) (jb : Nat → Blk) (vs : Nat → Nat) : Cf := cfAt Tryz.f104 [1, 1, 1, 0, 1, 0, 0, 1, 1, 0, 0, 1, 1, 0] ⟨([j 0, j 1, j 2, .mref 9 1, ac] ++ (J j 5 6 ++ ([(.list 1 (g.map E71)), .int .i64 l, .int .i64 c, j 14, j 15, j 16, (.list 2 (ab.map E_api_Hop)), .int .i64 aa, .int .i64 t] ++ J j 20 19))), (J jb 0 9 ++ ([⟨1, false, .map (mrow E_string E_bool p)⟩] ++ (J jb 10 25 ++ [q, jb 36, jb 37, jb 38])))⟩
def limits_Out_l1 : Prop := ∀ ac q, Opt E_string 35 1 ac q e → ∀ j jb vs, W C F 104 0 (limits_Out_l1_s g l c ab aa t p e ac q j jb vs) (Ans C Tryz.f104 (.list 1 (z.map E_string)))
variable {g l c ab aa t p e ac q a2 a3 a4 a5 ai z}
theorem limits_Out_l0_go (H : c < l ∧ 0 ≤ c ∧ c < (g.length : Int) ∧ limits_Out_l1 g l c (g.getD (c).toNat []) ((g.getD (c).toNat []).length : Int) 0 p e z ∨ ¬ c < l ∧ (z = e)) : limits_Out_l0 g l c p e z := by
 intro ac q ak j jb vs
 refine W.adv 1 (W.adv 6 ?_)
 rcases H with ⟨ar, H⟩ | ⟨ar, H⟩
 ·refine W.ct (c < l) ar ?_
  refine W.adv 6 ?_
  obtain ⟨a6, a7, H⟩ := H
  refine W.opS (O.ixE E71 1 .i64 g c [] (g.getD (c).toNat []) a6 a7 rfl) ?_
  refine W.adv 7 (W.opS (O.ln (g.getD (c).toNat []) E_api_Hop) ?_)
  exact W.adv 4 (W.tl (P := limits_Out_l1_s g l c (g.getD (c).toNat []) ((g.getD (c).toNat []).length : Int) 0 p e ac q) (H _ _ ak))
 ·refine W.cf (c < l) ar ?_
  refine W.adv 12 ?_
  rcases ak with ⟨rfl, al⟩ | ⟨u, rfl, rfl⟩
  ·subst al
   exact W.fr (Ans.q (.list 1 (([] : List T_string).map E_string)) (by rw [H]))
  ·exact W.fr (Ans.of (d := (.sref 35 (u + 1) 1 0 e.length)) (d' := (.list 1 (e.map E_string))) (e' := (.list 1 (e.map E_string))) (by kernel_rfl) ((congrArg (fun h => reify h DEPTH (.sref 35 (u + 1) 1 0 e.length)) (tidy_ver (b := 35) (v := u) (fz := false) (y := .rows 1 (e.map E_string)) (by kernel_rfl))).trans (rf_fullE (enc := E_string) E_string_t (b := 35) (v := (u + 1)) (w := (u + 1)) (fz := false) (xs := e) (by kernel_rfl) rfl rfl)) (by kernel_rfl) (by rw [H]))
theorem limits_Out_l1_go (H : (t < aa ∧ 0 ≤ t ∧ t < (ab.length : Int) ∧ ∃ f ad, ab.getD (t).toNat (ByteArray.empty, 0) = (f, ad) ∧ ((∃ ag, mget f p = some ag ∧ (ag = true ∧ limits_Out_l1 g l c ab aa (wi (t + 1)) p e z ∨ ¬ ag = true ∧ ∃ am, am = mput f true p ∧ (e.length + 1 + 192) * (16 + 1) ≤ 70368744177664 ∧ ∃ ae, ae = e ++ [f] ∧ limits_Out_l1 g l c ab aa (wi (t + 1)) am ae z)) ∨ mget f p = none ∧ ∃ an, an = mput f true p ∧ (e.length + 1 + 192) * (16 + 1) ≤ 70368744177664 ∧ ∃ af, af = e ++ [f] ∧ limits_Out_l1 g l c ab aa (wi (t + 1)) an af z)) ∨ ¬ t < aa ∧ limits_Out_l0 g l (wi (c + 1)) p e z) : limits_Out_l1 g l c ab aa t p e z := by
 intro ac q ak j jb vs
 refine W.adv 1 (W.adv 6 ?_)
 rcases H with ⟨au, H⟩ | ⟨au, H⟩
 ·refine W.ct (t < aa) au ?_
  refine W.adv 6 ?_
  obtain ⟨a8, a9, H⟩ := H
  obtain ⟨f, ad, ba, H⟩ := H
  refine W.opS (O.ixE E_api_Hop 2 .i64 ab t (ByteArray.empty, 0) (f, ad) a8 a9 ba) ?_
  refine W.adv 2 (W.opH (O.stV 8 ((jb 8).ver + 1) 0 0 2 2 [(.agg [.str ⟨#[]⟩, .int .i64 0])] [(.agg [.str f, .int .i64 ad])] (.agg [.str ⟨#[]⟩, .int .i64 0]) (.agg [.str f, .int .i64 ad])) ?_)
  refine W.adv 6 (W.opS (O.ldV 8 ((jb 8).ver + 1) 0 0 2 1 false false [(.agg [.str f, .int .i64 ad])] (.str f)) ?_)
  rcases H with ⟨ag, av, H⟩ | ⟨av, H⟩
  ·refine W.opS (OpIs.lkSome (kd := .string) (z := (.bool false)) (ok := false) (fz := false) (b := 9) (v := 1) (w := 1) (ek := E_string) (ev := E_bool) (k := f) (L := p) (x := ag) (r := (.bool ag)) (by kernel_rfl) rfl sameD_str av rfl) ?_
   refine W.adv 3 ?_
   rcases H with ⟨aw, H⟩ | ⟨aw, H⟩
   ·refine W.cb false (!ag) (congrArg (fun b => !b) aw) ?_
    exact W.adv 8 (W.tl (H _ _ ak))
   ·refine W.cb true (!ag) (congrArg (fun b => !b) (bfalse aw)) ?_
    refine W.adv 4 (W.opS (O.ldV 8 ((jb 8).ver + 1) 0 0 2 1 false false [(.agg [.str f, .int .i64 ad])] (.str f)) ?_)
    obtain ⟨am, bb, H⟩ := H
    refine W.opH (OpIs.mu (kd := .string) (b := 9) (v := 1) (w := 1) (ek := E_string) (ev := E_bool) (k := f) (x := true) (L := p) (by kernel_rfl) bb rfl sameD_str) ?_
    refine W.adv 5 (W.opS (O.ldV 8 ((jb 8).ver + 1) 0 0 2 1 false false [(.agg [.str f, .int .i64 ad])] (.str f)) ?_)
    refine W.adv 1 ?_
    rcases ak with ⟨rfl, al⟩ | ⟨u, rfl, rfl⟩
    ·subst al
     obtain ⟨ay, H⟩ := H
     obtain ⟨ae, ap, H⟩ := H
     have az : 1 = ae.length := by rw [ap] <;> rfl
     refine W.opH (O.apENil E_string (.lit (.list 1 [.str f])) 16 35 q.ver 1 [f] (ap.trans (List.nil_append _)) (by first | (simp; done) | (simp at ay ⊢; omega) | omega)) ?_
     exact W.adv 9 (W.tl (P := limits_Out_l1_s g l c ab aa (wi (t + 1)) am ae (.sref 35 (q.ver + 1) 1 0 1) (⟨(q.ver + 1), false, .rows 1 (ae.map E_string)⟩)) (H _ _ (Opt.row (w := q.ver) (by first | rfl | omega) az)))
    ·obtain ⟨ay, H⟩ := H
     obtain ⟨ae, ap, H⟩ := H
     have az : (e.length + 1) = ae.length := by rw [ap, List.length_append] <;> rfl
     refine W.opK (O.apERow E_string (.lit (.list 1 [.str f])) 16 35 (u + 1) 35 (u + 1) e.length 1 e [f] ap rfl ay) ?_
     exact W.adv 9 (W.tl (P := limits_Out_l1_s g l c ab aa (wi (t + 1)) am ae (.sref 35 ((u + 1) + 1) 1 0 (e.length + 1)) (⟨((u + 1) + 1), false, .rows 1 (ae.map E_string)⟩)) (H _ _ (Opt.row (w := (u + 1)) (by first | rfl | omega) az)))
  ·refine W.opS (OpIs.lkNone (kd := .string) (z := (.bool false)) (ok := false) (fz := false) (b := 9) (v := 1) (w := 1) (ek := E_string) (ev := E_bool) (k := f) (L := p) (r := (.bool false)) (by kernel_rfl) rfl sameD_str av rfl) ?_
   refine W.adv 8 (W.opS (O.ldV 8 ((jb 8).ver + 1) 0 0 2 1 false false [(.agg [.str f, .int .i64 ad])] (.str f)) ?_)
   obtain ⟨an, bc, H⟩ := H
   refine W.opH (OpIs.mu (kd := .string) (b := 9) (v := 1) (w := 1) (ek := E_string) (ev := E_bool) (k := f) (x := true) (L := p) (by kernel_rfl) bc rfl sameD_str) ?_
   refine W.adv 5 (W.opS (O.ldV 8 ((jb 8).ver + 1) 0 0 2 1 false false [(.agg [.str f, .int .i64 ad])] (.str f)) ?_)
   refine W.adv 1 ?_
   rcases ak with ⟨rfl, al⟩ | ⟨u, rfl, rfl⟩
   ·subst al
    obtain ⟨a0, H⟩ := H
    obtain ⟨af, aq, H⟩ := H
    have a1 : 1 = af.length := by rw [aq] <;> rfl
    refine W.opH (O.apENil E_string (.lit (.list 1 [.str f])) 16 35 q.ver 1 [f] (aq.trans (List.nil_append _)) (by first | (simp; done) | (simp at a0 ⊢; omega) | omega)) ?_
    exact W.adv 9 (W.tl (P := limits_Out_l1_s g l c ab aa (wi (t + 1)) an af (.sref 35 (q.ver + 1) 1 0 1) (⟨(q.ver + 1), false, .rows 1 (af.map E_string)⟩)) (H _ _ (Opt.row (w := q.ver) (by first | rfl | omega) a1)))
   ·obtain ⟨a0, H⟩ := H
    obtain ⟨af, aq, H⟩ := H
    have a1 : (e.length + 1) = af.length := by rw [aq, List.length_append] <;> rfl
    refine W.opK (O.apERow E_string (.lit (.list 1 [.str f])) 16 35 (u + 1) 35 (u + 1) e.length 1 e [f] aq rfl a0) ?_
    exact W.adv 9 (W.tl (P := limits_Out_l1_s g l c ab aa (wi (t + 1)) an af (.sref 35 ((u + 1) + 1) 1 0 (e.length + 1)) (⟨((u + 1) + 1), false, .rows 1 (af.map E_string)⟩)) (H _ _ (Opt.row (w := (u + 1)) (by first | rfl | omega) a1)))
 ·refine W.cf (t < aa) au ?_
  exact W.adv 11 (W.tl (H _ _ ak))
theorem limits_Out_go (H : limits_Out_l0 ai (ai.length : Int) 0 ([] : List (T_string × T_bool)) ([] : List T_string) z) : limits_Out_R a2 a3 a4 a5 ai z := by
 refine W.ii Tryz.func104 ?_
 refine W.adv 22 (W.opS (O.ln ai E71) ?_)
 exact W.adv 4 (W.tl (P := limits_Out_l0_s ai (ai.length : Int) 0 ([] : List (T_string × T_bool)) ([] : List T_string) .nilS noBlk) (H _ _ Opt.nil))
end
end Go.Proofs.YtjcdkemnflmfiaaGreatA
namespace Go.Proofs.YtjcdkemnflmfiaaGreatA
open Go Go.Proofs
theorem mul_Mul_go {b c z : List Int} (H : ∃ a, mul_Short_R b c a ∧ (z = a)) : mul_Mul_R b c z := by
 refine W.ii Tryz.func159 ?_
 refine W.adv 9 ?_
 obtain ⟨a, e, H⟩ := H
 refine W.cl 187 [.ints .u64 b, .ints .u64 c] (.ints .u64 a) e ?_
 exact W.adv 4 (W.fr (Ans.o (.ints .u64 a) (by rw [H])))
theorem mul_Short_go {a b z : List Int} (H : ((mn (a.length : Int) (b.length : Int)) < 4 ∧ ∃ n, mul_Long_R a b n ∧ (z = n)) ∨ ¬ (mn (a.length : Int) (b.length : Int)) < 4 ∧ ∃ c e, mul_cut_R a (wi ((wi ((mx (a.length : Int) (b.length : Int)) + 1)).tdiv 2)) c e ∧ ∃ f i, mul_cut_R b (wi ((wi ((mx (a.length : Int) (b.length : Int)) + 1)).tdiv 2)) f i ∧ ∃ l, mul_Short_R c f l ∧ ∃ m, mul_Short_R e i m ∧ ∃ q, nat_Add_R c e q ∧ ∃ s, nat_Add_R f i s ∧ ∃ t, mul_Short_R q s t ∧ ∃ u ad, nat_Sub_R t l u ad ∧ ∃ v ae, nat_Sub_R u m v ae ∧ ∃ aa, mul_up_R v (wi ((wi ((mx (a.length : Int) (b.length : Int)) + 1)).tdiv 2)) aa ∧ ∃ ac, ac = (wi (2 * (wi ((wi ((mx (a.length : Int) (b.length : Int)) + 1)).tdiv 2)))) ∧ ∃ ab, mul_up_R m ac ab ∧ ∃ p, nat_Sum_R [l, aa, ab] p ∧ (z = p)) : mul_Short_R a b z := by
 refine W.ii Tryz.func187 ?_
 refine W.adv 16 ?_
 rcases H with ⟨af, H⟩ | ⟨af, H⟩
 ·refine W.ct ((mn (a.length : Int) (b.length : Int)) < 4) af ?_
  refine W.adv 4 ?_
  obtain ⟨n, ag, H⟩ := H
  refine W.cl 201 [.ints .u64 a, .ints .u64 b] (.ints .u64 n) ag ?_
  exact W.adv 5 (W.fr (Ans.o (.ints .u64 n) (by rw [H])))
 ·refine W.cf ((mn (a.length : Int) (b.length : Int)) < 4) af ?_
  refine W.adv 18 ?_
  obtain ⟨c, e, ai, H⟩ := H
  refine W.cl 202 [.ints .u64 a, (.int .i64 (wi ((wi ((mx (a.length : Int) (b.length : Int)) + 1)).tdiv 2)))] (.tuple [.ints .u64 c, .ints .u64 e]) ai ?_
  refine W.adv 11 ?_
  obtain ⟨f, i, ak, H⟩ := H
  refine W.cl 202 [.ints .u64 b, (.int .i64 (wi ((wi ((mx (a.length : Int) (b.length : Int)) + 1)).tdiv 2)))] (.tuple [.ints .u64 f, .ints .u64 i]) ak ?_
  refine W.adv 11 ?_
  obtain ⟨l, al, H⟩ := H
  refine W.cl 187 [.ints .u64 c, .ints .u64 f] (.ints .u64 l) al ?_
  refine W.adv 2 ?_
  obtain ⟨m, am, H⟩ := H
  refine W.cl 187 [.ints .u64 e, .ints .u64 i] (.ints .u64 m) am ?_
  refine W.adv 8 ?_
  obtain ⟨q, an, H⟩ := H
  refine W.cl 149 [.ints .u64 c, .ints .u64 e] (.ints .u64 q) an ?_
  refine W.adv 2 ?_
  obtain ⟨s, ap, H⟩ := H
  refine W.cl 149 [.ints .u64 f, .ints .u64 i] (.ints .u64 s) ap ?_
  obtain ⟨t, aq, H⟩ := H
  refine W.cl 187 [.ints .u64 q, .ints .u64 s] (.ints .u64 t) aq ?_
  refine W.adv 7 ?_
  obtain ⟨u, ad, ar, H⟩ := H
  refine W.cl 158 [.ints .u64 t, .ints .u64 l] (.tuple [.ints .u64 u, .int .i64 ad]) ar ?_
  refine W.adv 10 ?_
  obtain ⟨v, ae, au, H⟩ := H
  refine W.cl 158 [.ints .u64 u, .ints .u64 m] (.tuple [.ints .u64 v, .int .i64 ae]) au ?_
  refine W.adv 11 ?_
  obtain ⟨aa, av, H⟩ := H
  refine W.cl 204 [.ints .u64 v, (.int .i64 (wi ((wi ((mx (a.length : Int) (b.length : Int)) + 1)).tdiv 2)))] (.ints .u64 aa) av ?_
  refine W.adv 2 ?_
  obtain ⟨ac, aw, H⟩ := H
  refine W.opS (OpIs.bnN (k := .i64) (op := .mul) (x := (.int .i64 2)) (y := (.int .i64 (wi ((wi ((mx (a.length : Int) (b.length : Int)) + 1)).tdiv 2)))) (by kernel_rfl) aw (by kernel_rfl)) ?_
  obtain ⟨ab, ay, H⟩ := H
  refine W.cl 204 [.ints .u64 m, .int .i64 ac] (.ints .u64 ab) ay ?_
  refine W.adv 1 ?_
  obtain ⟨p, az, H⟩ := H
  refine W.callR (g := 203) (ds := [(.lit (.list 1 [.ints .u64 l, .ints .u64 aa, .ints .u64 ab]))]) (es := [(.list 1 [.ints .u64 l, .ints .u64 aa, .ints .u64 ab])]) (r := (.ints .u64 p)) (by kernel_rfl) (by kernel_rfl) (Ic.args az (by kernel_rfl)) (by kernel_rfl) ?_
  exact W.adv 4 (W.fr (Ans.o (.ints .u64 p) (by rw [H])))
section
variable (f : List Int) (l ac ad : Int) (p : List Int) (q a : Int) (u : List Int) (aa e : Int) (c : List Int) (s : Nat) (t ab z : List Int)
noncomputable def mul_Long_l0_s (j : Nat → D) (jb : Nat → Blk) (vs : Nat → Nat) : Cf := cfAt Tryz.f201 [1, 1, 0, 1, 0] ⟨([j 0, .ints .u64 f, j 2, j 3, j 4, .sref 16 1 1 0 s] ++ (J j 6 11 ++ ([.ints .u64 p, .int .i64 q, .int .i64 a] ++ J j 20 40))), (J jb 0 16 ++ ([⟨1, false, .ints .u64 c⟩] ++ J jb 17 43))⟩
def mul_Long_l0 : Prop := ∀ s, s = c.length → ∀ j jb vs, W C F 201 0 (mul_Long_l0_s f p q a c s j jb vs) (Ans C Tryz.f201 (.ints .u64 z))
noncomputable def mul_Long_l1_s (j : Nat → D) (jb : Nat → Blk) (vs : Nat → Nat) : Cf := cfAt Tryz.f201 [1, 1, 0, 1, 0, 0, 1, 1, 0, 0, 1, 1, 0, 1, 0] ⟨([j 0, .ints .u64 f, j 2, j 3, j 4, .sref 16 1 1 0 s, .int .i64 l, .int .u64 ac, .int .u64 ad] ++ (J j 9 8 ++ ([.ints .u64 p, .int .i64 q, .int .i64 a] ++ (J j 20 4 ++ ([.ints .u64 u, .int .i64 aa, .int .i64 e] ++ J j 27 33))))), (J jb 0 16 ++ ([⟨1, false, .ints .u64 c⟩] ++ J jb 17 43))⟩
def mul_Long_l1 : Prop := ∀ s, s = c.length → ∀ j jb vs, W C F 201 0 (mul_Long_l1_s f l ac ad p q a u aa e c s j jb vs) (Ans C Tryz.f201 (.ints .u64 z))
variable {f l ac ad p q a u aa e c s t ab z}
theorem mul_Long_l0_go (H : a < q ∧ 0 ≤ a ∧ a < (p.length : Int) ∧ mul_Long_l1 f a (p.getD (a).toNat 0) 0 p q a f (f.length : Int) 0 c z ∨ ¬ a < q ∧ ∃ af, mul_made_R c af ∧ (z = af)) : mul_Long_l0 f p q a c z := by
 intro s ae j jb vs
 refine W.adv 1 (W.adv 6 ?_)
 rcases H with ⟨an, H⟩ | ⟨an, H⟩
 ·refine W.ct (a < q) an ?_
  refine W.adv 7 ?_
  obtain ⟨ay, az, H⟩ := H
  refine W.opS (O.ixI .u64 .i64 p a ay az) ?_
  exact W.adv 19 (W.tl (H _ ae))
 ·refine W.cf (a < q) an ?_
  refine W.adv 8 ?_
  obtain ⟨af, a2, H⟩ := H
  refine W.callR (g := 215) (ds := [.sref 16 1 1 0 s]) (es := [.ints .u64 c]) (r := (.ints .u64 af)) (by kernel_rfl) (rf_cons (rf_full (b := 16) (v := 1) (w := 1) (fz := false) (k := .u64) (xs := c) (by kernel_rfl) rfl ae) rf_nil) (Ic.args a2 (by kernel_rfl)) (by kernel_rfl) ?_
  exact W.adv 4 (W.fr (Ans.o (.ints .u64 af) (by rw [H])))
theorem mul_Long_l1_go (H : (e < aa ∧ 0 ≤ e ∧ e < (u.length : Int) ∧ 0 ≤ (wi (l + e)) ∧ (wi (l + e)) < (c.length : Int) ∧ ∃ ag ai, limb_Mul_R ac (u.getD (e).toNat 0) (c.getD (wi (l + e)).toNat 0) ad ag ai ∧ ∃ ak, ak = c.set (wi (l + e)).toNat ag ∧ mul_Long_l1 f l ac ai p q a u aa (wi (e + 1)) ak z) ∨ ¬ e < aa ∧ 0 ≤ (wi (l + (f.length : Int))) ∧ (wi (l + (f.length : Int))) < (c.length : Int) ∧ ∃ al, al = c.set (wi (l + (f.length : Int))).toNat ad ∧ mul_Long_l0 f p q (wi (a + 1)) al z) : mul_Long_l1 f l ac ad p q a u aa e c z := by
 intro s ae j jb vs
 refine W.adv 1 (W.adv 6 ?_)
 rcases H with ⟨ap, H⟩ | ⟨ap, H⟩
 ·refine W.ct (e < aa) ap ?_
  refine W.adv 7 ?_
  obtain ⟨a3, a4, H⟩ := H
  refine W.opS (O.ixI .u64 .i64 u e a3 a4) ?_
  refine W.adv 16 ?_
  obtain ⟨aq, ar, H⟩ := H
  refine W.opS (O.ixR .i64 16 1 1 s (wi (l + e)) aq (by rw [ae]; exact ar)) ?_
  refine W.opS (OpIs.ldI (b := 16) (v := 1) (i := (wi (l + e)).toNat) (w := 1) (fz := false) (k := .u64) (xs := c) (by kernel_rfl) rfl (by omega)) ?_
  refine W.adv 1 ?_
  obtain ⟨ag, ai, a5, H⟩ := H
  refine W.cl 214 [.int .u64 ac, (.int .u64 (u.getD (e).toNat 0)), (.int .u64 (c.getD (wi (l + e)).toNat 0)), .int .u64 ad] (.tuple [.int .u64 ag, .int .u64 ai]) a5 ?_
  refine W.adv 3 (W.opS (O.ixR .i64 16 1 1 s (wi (l + e)) aq (by rw [ae]; exact ar)) ?_)
  obtain ⟨ak, au, H⟩ := H
  have a6 : s = ak.length := by rw [au, List.length_set] <;> exact ae
  refine W.opH (OpIs.stN (b := 16) (v := 1) (i := (wi (l + e)).toNat) (w := 1) (k := .u64) (xs := c) (n := ag) (by kernel_rfl) au rfl (by omega)) ?_
  exact W.adv 9 (W.tl (H _ a6))
 ·refine W.cf (e < aa) ap ?_
  refine W.adv 12 ?_
  obtain ⟨a7, a8, H⟩ := H
  refine W.opS (O.ixR .i64 16 1 1 s (wi (l + (f.length : Int))) a7 (by rw [ae]; exact a8)) ?_
  obtain ⟨al, av, H⟩ := H
  have a9 : s = al.length := by rw [av, List.length_set] <;> exact ae
  refine W.opH (OpIs.stN (b := 16) (v := 1) (i := (wi (l + (f.length : Int))).toNat) (w := 1) (k := .u64) (xs := c) (n := ad) (by kernel_rfl) av rfl (by omega)) ?_
  exact W.adv 8 (W.tl (H _ a9))
theorem mul_Long_go (H : 0 ≤ (wi ((t.length : Int) + (ab.length : Int))) ∧ 8 * (wi ((t.length : Int) + (ab.length : Int))) ≤ 140737488351232 ∧ ∃ am, am = List.replicate (wi ((t.length : Int) + (ab.length : Int))).toNat 0 ∧ mul_Long_l0 ab t (t.length : Int) 0 am z) : mul_Long_R t ab z := by
 refine W.ii Tryz.func201 ?_
 refine W.adv 12 ?_
 obtain ⟨ba, bb, H⟩ := H
 obtain ⟨am, aw, H⟩ := H
 have bc : (wi ((t.length : Int) + (ab.length : Int))).toNat = am.length := by rw [aw, List.length_replicate]
 refine W.opH (OpIs.msN (k1 := .i64) (k2 := .i64) (k := .u64) (n := (wi ((t.length : Int) + (ab.length : Int)))) (m := (wi ((t.length : Int) + (ab.length : Int)))) (y := 8) (b := 16) (v := 0) (by kernel_rfl) aw ba (Int.le_refl _) bb (by omega)) ?_
 exact W.adv 12 (W.tl (P := mul_Long_l0_s ab t (t.length : Int) 0 am ((wi ((t.length : Int) + (ab.length : Int))).toNat)) (H _ bc))
end
theorem mul_cut_go {a : List Int} {b : Int} {f l : List Int} (H : 0 ≤ (mn b (a.length : Int)) ∧ (mn b (a.length : Int)) ≤ (a.length : Int) ∧ ∃ c, mul_made_R (a.take (mn b (a.length : Int)).toNat) c ∧ ∃ e, mul_made_R (a.drop (mn b (a.length : Int)).toNat) e ∧ f = c ∧ l = e) : mul_cut_R a b f l := by
 refine W.ii Tryz.func202 ?_
 refine W.adv 19 ?_
 obtain ⟨m, n, H⟩ := H
 refine W.opS (OpIs.slI_hi (k := .u64) (k' := .i64) (xs := a) (i := (mn b (a.length : Int))) (by kernel_rfl) m n) ?_
 obtain ⟨c, p, H⟩ := H
 refine W.cl 215 [(.ints .u64 (a.take (mn b (a.length : Int)).toNat))] (.ints .u64 c) p ?_
 refine W.adv 2 (W.opS (OpIs.slI_lo (k := .u64) (k' := .i64) (xs := a) (i := (mn b (a.length : Int))) (by kernel_rfl) m n) ?_)
 obtain ⟨e, q, H⟩ := H
 refine W.cl 215 [(.ints .u64 (a.drop (mn b (a.length : Int)).toNat))] (.ints .u64 e) q ?_
 exact W.adv 5 (W.fr (Ans.o (.tuple [.ints .u64 c, .ints .u64 e]) (by rw [H.1, H.2])))
theorem mul_up_go {c : List Int} {a : Int} {z : List Int} (H : 0 ≤ (wi (a + (c.length : Int))) ∧ 8 * (wi (a + (c.length : Int))) ≤ 140737488351232 ∧ ∃ e, e = List.replicate (wi (a + (c.length : Int))).toNat 0 ∧ 0 ≤ a ∧ a ≤ (e.length : Int) ∧ ∃ f, f = e.take (a).toNat ++ (c.take (min c.length (e.length - (a).toNat)) ++ e.drop ((a).toNat + min c.length (e.length - (a).toNat))) ∧ ∃ l, mul_made_R f l ∧ (z = l)) : mul_up_R c a z := by
 refine W.ii Tryz.func204 ?_
 refine W.adv 11 ?_
 obtain ⟨s, t, H⟩ := H
 obtain ⟨e, p, H⟩ := H
 have u : (wi (a + (c.length : Int))).toNat = e.length := by rw [p, List.length_replicate]
 refine W.opH (OpIs.msN (k1 := .i64) (k2 := .i64) (k := .u64) (n := (wi (a + (c.length : Int)))) (m := (wi (a + (c.length : Int)))) (y := 8) (b := 10) (v := 0) (by kernel_rfl) p s (Int.le_refl _) t (by omega)) ?_
 refine W.adv 7 ?_
 obtain ⟨aa, ab, H⟩ := H
 refine W.opS (OpIs.slR (k' := .i64) (b := 10) (v := 1) (sz := 1) (len := (wi (a + (c.length : Int))).toNat) (m := e.length) (i := a) (by kernel_rfl) u aa ab) ?_
 refine W.adv 1 ?_
 obtain ⟨f, q, H⟩ := H
 have ac : (wi (a + (c.length : Int))).toNat = f.length := by rw [q, List.length_append, List.length_append, List.length_take, List.length_take, List.length_drop]; omega
 refine W.opH (OpIs.cp (zs := f) (y := (.ints .u64 c)) (b := 10) (v := 1) (w := 1) (off := (a).toNat) (len := (e.length - (a).toNat)) (k := .u64) (xs := e) (ys := c) (by kernel_rfl) (by kernel_rfl) rfl (by omega) q) ?_
 refine W.adv 5 ?_
 obtain ⟨l, ad, H⟩ := H
 refine W.callR (g := 215) (ds := [(.sref 10 1 1 0 (wi (a + (c.length : Int))).toNat)]) (es := [.ints .u64 f]) (r := (.ints .u64 l)) (by kernel_rfl) (rf_cons (rf_full (b := 10) (v := 1) (w := 1) (fz := false) (k := .u64) (xs := f) (by kernel_rfl) rfl ac) rf_nil) (Ic.args ad (by kernel_rfl)) (by kernel_rfl) ?_
 exact W.adv 4 (W.fr (Ans.o (.ints .u64 l) (by rw [H])))
theorem mul_made_go {b z : List Int} (H : ∃ a c, nat_Make_R b a c ∧ (z = a)) : mul_made_R b z := by
 refine W.ii Tryz.func215 ?_
 refine W.adv 8 ?_
 obtain ⟨a, c, e, H⟩ := H
 refine W.cl 180 [.ints .u64 b] (.tuple [.ints .u64 a, .int .i64 c]) e ?_
 exact W.adv 14 (W.fr (Ans.o (.ints .u64 a) (by rw [H])))
end Go.Proofs.YtjcdkemnflmfiaaGreatA
namespace Go.Proofs.YtjcdkemnflmfiaaGreatA
open Go Go.Proofs
theorem ref07_Back_go {b : Bool} {c : List Int} {e : Bool} {f : List Int} (H : ∃ a, ref02_Back_R c a ∧ e = b ∧ f = a) : ref07_Back_R b c e f := by
 refine W.ii Tryz.func56 ?_
 refine W.adv 12 ?_
 obtain ⟨a, i, H⟩ := H
 refine W.cl 57 [.ints .i64 c] (.ints .u64 a) i ?_
 exact W.adv 5 (W.fr (Ans.o (.agg [.bool b, .ints .u64 a]) (by rw [H.1, H.2])))
theorem whole_Sign_go {a : Bool} {b : List Int} {z : Int} (H : (b.length : Int) = 0 ∧ (z = 0) ∨ ¬ (b.length : Int) = 0 ∧ (a = true ∧ (z = (-1)) ∨ ¬ a = true ∧ (z = 1))) : whole_Sign_R a b z := by
 refine W.ii Tryz.func71 ?_
 refine W.adv 17 ?_
 rcases H with ⟨c, H⟩ | ⟨c, H⟩
 ·refine W.ct ((b.length : Int) = 0) c ?_
  exact W.adv 8 (W.fr (Ans.o (.int .i64 0) (by rw [H])))
 ·refine W.cf ((b.length : Int) = 0) c ?_
  refine W.adv 7 ?_
  rcases H with ⟨e, H⟩ | ⟨e, H⟩
  ·refine W.cb true a e ?_
   exact W.adv 8 (W.fr (Ans.o (.int .i64 (-1)) (by rw [H])))
  ·refine W.cb false a (bfalse e) ?_
   exact W.adv 9 (W.fr (Ans.o (.int .i64 1) (by rw [H])))
theorem whole_Of_go {a : Int} {n : Bool} {p : List Int} (H : (a < 0 ∧ ∃ i, nat_Of_R (wu ((wi (0 - (wi (a + 1)))))) i ∧ ∃ k, nat_Of_R 1 k ∧ ∃ l, nat_Add_R i k l ∧ ∃ b c, whole_Made_R true l b c ∧ n = b ∧ p = c) ∨ ¬ a < 0 ∧ ∃ m, nat_Of_R (wu (a)) m ∧ ∃ e f, whole_Made_R false m e f ∧ n = e ∧ p = f) : whole_Of_R a n p := by
 refine W.ii Tryz.func100 ?_
 refine W.adv 12 ?_
 rcases H with ⟨q, H⟩ | ⟨q, H⟩
 ·refine W.ct (a < 0) q ?_
  refine W.adv 6 ?_
  obtain ⟨i, s, H⟩ := H
  refine W.cl 150 [(.int .u64 (wu ((wi (0 - (wi (a + 1)))))))] (.ints .u64 i) s ?_
  obtain ⟨k, t, H⟩ := H
  refine W.cl 150 [.int .u64 1] (.ints .u64 k) t ?_
  obtain ⟨l, u, H⟩ := H
  refine W.cl 149 [.ints .u64 i, .ints .u64 k] (.ints .u64 l) u ?_
  obtain ⟨b, c, v, H⟩ := H
  refine W.cl 148 [.bool true, .ints .u64 l] (.agg [.bool b, .ints .u64 c]) v ?_
  exact W.adv 5 (W.fr (Ans.o (.agg [.bool b, .ints .u64 c]) (by rw [H.1, H.2])))
 ·refine W.cf (a < 0) q ?_
  refine W.adv 6 ?_
  obtain ⟨m, y, H⟩ := H
  refine W.cl 150 [(.int .u64 (wu (a)))] (.ints .u64 m) y ?_
  obtain ⟨e, f, z, H⟩ := H
  refine W.cl 148 [.bool false, .ints .u64 m] (.agg [.bool e, .ints .u64 f]) z ?_
  exact W.adv 4 (W.fr (Ans.o (.agg [.bool e, .ints .u64 f]) (by rw [H.1, H.2])))
theorem whole_Add_go {a : Bool} {b : List Int} {e : Bool} {c : List Int} {f : Bool} {i : List Int} (H : a = true ∧ ((e = true ∧ ∃ ad, nat_Add_R b c ad ∧ ∃ k l, whole_Made_R a ad k l ∧ f = k ∧ i = l) ∨ ¬ e = true ∧ ∃ ae m, nat_Sub_R b c ae m ∧ ((m = 0 ∧ ∃ n p, whole_Made_R a ae n p ∧ f = n ∧ i = p) ∨ ¬ m = 0 ∧ ∃ af am, nat_Sub_R c b af am ∧ ∃ q s, whole_Made_R e af q s ∧ f = q ∧ i = s)) ∨ ¬ a = true ∧ ((e = true ∧ ∃ ag t, nat_Sub_R b c ag t ∧ ((t = 0 ∧ ∃ u v, whole_Made_R a ag u v ∧ f = u ∧ i = v) ∨ ¬ t = 0 ∧ ∃ ai an, nat_Sub_R c b ai an ∧ ∃ z aa, whole_Made_R e ai z aa ∧ f = z ∧ i = aa)) ∨ ¬ e = true ∧ ∃ ak, nat_Add_R b c ak ∧ ∃ ab ac, whole_Made_R a ak ab ac ∧ f = ab ∧ i = ac)) : whole_Add_R a b e c f i := by
 refine W.ii Tryz.func112 ?_
 refine W.adv 17 ?_
 rcases H with ⟨al, H⟩ | ⟨al, H⟩
 ·rcases H with ⟨ap, H⟩ | ⟨ap, H⟩
  ·refine W.cb true (a == e) (congr (congrArg (fun x y => x == y) al) ap) ?_
   refine W.adv 8 ?_
   obtain ⟨ad, av, H⟩ := H
   refine W.cl 149 [.ints .u64 b, .ints .u64 c] (.ints .u64 ad) av ?_
   obtain ⟨k, l, aw, H⟩ := H
   refine W.cl 148 [.bool a, .ints .u64 ad] (.agg [.bool k, .ints .u64 l]) aw ?_
   exact W.adv 5 (W.fr (Ans.o (.agg [.bool k, .ints .u64 l]) (by rw [H.1, H.2])))
  ·refine W.cb false (a == e) (congr (congrArg (fun x y => x == y) al) (bfalse ap)) ?_
   refine W.adv 9 ?_
   obtain ⟨ae, m, ay, H⟩ := H
   refine W.cl 158 [.ints .u64 b, .ints .u64 c] (.tuple [.ints .u64 ae, .int .i64 m]) ay ?_
   refine W.adv 13 ?_
   rcases H with ⟨aq, H⟩ | ⟨aq, H⟩
   ·refine W.ct (m = 0) aq ?_
    refine W.adv 5 ?_
    obtain ⟨n, p, az, H⟩ := H
    refine W.cl 148 [.bool a, .ints .u64 ae] (.agg [.bool n, .ints .u64 p]) az ?_
    exact W.adv 5 (W.fr (Ans.o (.agg [.bool n, .ints .u64 p]) (by rw [H.1, H.2])))
   ·refine W.cf (m = 0) aq ?_
    refine W.adv 8 ?_
    obtain ⟨af, am, a0, H⟩ := H
    refine W.cl 158 [.ints .u64 c, .ints .u64 b] (.tuple [.ints .u64 af, .int .i64 am]) a0 ?_
    refine W.adv 12 ?_
    obtain ⟨q, s, a1, H⟩ := H
    refine W.cl 148 [.bool e, .ints .u64 af] (.agg [.bool q, .ints .u64 s]) a1 ?_
    exact W.adv 4 (W.fr (Ans.o (.agg [.bool q, .ints .u64 s]) (by rw [H.1, H.2])))
 ·rcases H with ⟨ar, H⟩ | ⟨ar, H⟩
  ·refine W.cb false (a == e) (congr (congrArg (fun x y => x == y) (bfalse al)) ar) ?_
   refine W.adv 9 ?_
   obtain ⟨ag, t, a2, H⟩ := H
   refine W.cl 158 [.ints .u64 b, .ints .u64 c] (.tuple [.ints .u64 ag, .int .i64 t]) a2 ?_
   refine W.adv 13 ?_
   rcases H with ⟨au, H⟩ | ⟨au, H⟩
   ·refine W.ct (t = 0) au ?_
    refine W.adv 5 ?_
    obtain ⟨u, v, a3, H⟩ := H
    refine W.cl 148 [.bool a, .ints .u64 ag] (.agg [.bool u, .ints .u64 v]) a3 ?_
    exact W.adv 5 (W.fr (Ans.o (.agg [.bool u, .ints .u64 v]) (by rw [H.1, H.2])))
   ·refine W.cf (t = 0) au ?_
    refine W.adv 8 ?_
    obtain ⟨ai, an, a4, H⟩ := H
    refine W.cl 158 [.ints .u64 c, .ints .u64 b] (.tuple [.ints .u64 ai, .int .i64 an]) a4 ?_
    refine W.adv 12 ?_
    obtain ⟨z, aa, a5, H⟩ := H
    refine W.cl 148 [.bool e, .ints .u64 ai] (.agg [.bool z, .ints .u64 aa]) a5 ?_
    exact W.adv 4 (W.fr (Ans.o (.agg [.bool z, .ints .u64 aa]) (by rw [H.1, H.2])))
  ·refine W.cb true (a == e) (congr (congrArg (fun x y => x == y) (bfalse al)) (bfalse ar)) ?_
   refine W.adv 8 ?_
   obtain ⟨ak, a6, H⟩ := H
   refine W.cl 149 [.ints .u64 b, .ints .u64 c] (.ints .u64 ak) a6 ?_
   obtain ⟨ab, ac, a7, H⟩ := H
   refine W.cl 148 [.bool a, .ints .u64 ak] (.agg [.bool ab, .ints .u64 ac]) a7 ?_
   exact W.adv 5 (W.fr (Ans.o (.agg [.bool ab, .ints .u64 ac]) (by rw [H.1, H.2])))
theorem whole_Mul_go {e : Bool} {f : List Int} {i : Bool} {k : List Int} {l : Bool} {m : List Int} (H : ∃ c, mul_Mul_R f k c ∧ ∃ a b, whole_Made_R (!(e == i)) c a b ∧ l = a ∧ m = b) : whole_Mul_R e f i k l m := by
 refine W.ii Tryz.func113 ?_
 refine W.adv 18 ?_
 obtain ⟨c, n, H⟩ := H
 refine W.cl 159 [.ints .u64 f, .ints .u64 k] (.ints .u64 c) n ?_
 obtain ⟨a, b, p, H⟩ := H
 refine W.cl 148 [(.bool (!(e == i))), .ints .u64 c] (.agg [.bool a, .ints .u64 b]) p ?_
 exact W.adv 4 (W.fr (Ans.o (.agg [.bool a, .ints .u64 b]) (by rw [H.1, H.2])))
theorem ref07_Of_go {e : Bool} {f : List Int} {i : Bool} {k : List Int} (H : ∃ c, ref02_Of_R f c ∧ ∃ a b, ref07_made_R e c a b ∧ i = a ∧ k = b) : ref07_Of_R e f i k := by
 refine W.ii Tryz.func115 ?_
 refine W.adv 12 ?_
 obtain ⟨c, l, H⟩ := H
 refine W.cl 116 [.ints .u64 f] (.ints .i64 c) l ?_
 obtain ⟨a, b, m, H⟩ := H
 refine W.cl 125 [.bool e, .ints .i64 c] (.agg [.bool a, .ints .i64 b]) m ?_
 exact W.adv 4 (W.fr (Ans.o (.agg [.bool a, .ints .i64 b]) (by rw [H.1, H.2])))
theorem ref07_made_go {c : Bool} {a : List Int} {f : Bool} {g : List Int} (H : c = true ∧ f = (decide (0 < (a.length : Int))) ∧ g = a ∨ ¬ c = true ∧ f = false ∧ g = a) : ref07_made_R c a f g := by
 refine W.ii Tryz.func125 ?_
 refine W.adv 9 ?_
 rcases H with ⟨e, H⟩ | ⟨e, H⟩
 ·refine W.gb true (c == true) (congrArg (fun b => b == true) e) ?_
  refine W.adv 1 (W.gb true (c == true) (congrArg (fun b => b == true) e) ?_)
  refine W.adv 1 (W.gb true (c == true) (congrArg (fun b => b == true) e) ?_)
  refine W.adv 1 (W.opS (O.pk c true (.bool (decide (0 < (a.length : Int)))) (.bool false) e) ?_)
  exact W.adv 6 (W.fr (Ans.o (.agg [(.bool (decide (0 < (a.length : Int)))), .ints .i64 a]) (by rw [H.1, H.2])))
 ·refine W.gb false (c == true) (congrArg (fun b => b == true) (bfalse e)) ?_
  refine W.gb false (c == true) (congrArg (fun b => b == true) (bfalse e)) ?_
  refine W.gb false (c == true) (congrArg (fun b => b == true) (bfalse e)) ?_
  refine W.opS (O.pk c false (.tuple []) (.bool false) (bfalse e)) ?_
  exact W.adv 6 (W.fr (Ans.o (.agg [.bool false, .ints .i64 a]) (by rw [H.1, H.2])))
theorem whole_Cmp_go {i : Bool} {c : List Int} {k : Bool} {e : List Int} {z : Int} (H : ∃ a, whole_Sign_R i c a ∧ ∃ b, whole_Sign_R k e b ∧ (a < b ∧ (z = (-1)) ∨ ¬ a < b ∧ (b < a ∧ (z = 1) ∨ ¬ b < a ∧ ∃ f, nat_Cmp_R c e f ∧ (z = (wi (a * f)))))) : whole_Cmp_R i c k e z := by
 refine W.ii Tryz.func131 ?_
 refine W.adv 10 ?_
 obtain ⟨a, n, H⟩ := H
 refine W.cl 71 [(.agg [.bool i, .ints .u64 c])] (.int .i64 a) n ?_
 refine W.adv 1 ?_
 obtain ⟨b, p, H⟩ := H
 refine W.cl 71 [(.agg [.bool k, .ints .u64 e])] (.int .i64 b) p ?_
 refine W.adv 14 ?_
 rcases H with ⟨l, H⟩ | ⟨l, H⟩
 ·refine W.ct (a < b) l ?_
  exact W.adv 8 (W.fr (Ans.o (.int .i64 (-1)) (by rw [H])))
 ·refine W.cf (a < b) l ?_
  refine W.adv 8 ?_
  rcases H with ⟨m, H⟩ | ⟨m, H⟩
  ·refine W.ct (b < a) m ?_
   exact W.adv 8 (W.fr (Ans.o (.int .i64 1) (by rw [H])))
  ·refine W.cf (b < a) m ?_
   refine W.adv 10 ?_
   obtain ⟨f, q, H⟩ := H
   refine W.cl 101 [.ints .u64 c, .ints .u64 e] (.int .i64 f) q ?_
   exact W.adv 5 (W.fr (Ans.o (.int .i64 (wi (a * f))) (by rw [H])))
theorem ref07_Clean_go {c : Bool} {f : List Int} {i : Int} {k : Bool} {l : List Int} (H : ∃ a, ref02_Clean_R f i a ∧ (c = true ∧ k = (decide (0 < (a.length : Int))) ∧ l = a ∨ ¬ c = true ∧ k = false ∧ l = a)) : ref07_Clean_R c f i k l := by
 refine W.ii Tryz.func146 ?_
 refine W.adv 11 ?_
 obtain ⟨a, m, H⟩ := H
 refine W.cl 145 [.ints .u64 f, .int .i64 i] (.ints .u64 a) m ?_
 refine W.adv 8 ?_
 rcases H with ⟨e, H⟩ | ⟨e, H⟩
 ·refine W.gb true (c == true) (congrArg (fun b => b == true) e) ?_
  refine W.adv 1 (W.gb true (c == true) (congrArg (fun b => b == true) e) ?_)
  refine W.adv 1 (W.gb true (c == true) (congrArg (fun b => b == true) e) ?_)
  refine W.adv 1 (W.opS (O.pk c true (.bool (decide (0 < (a.length : Int)))) (.bool false) e) ?_)
  exact W.adv 6 (W.fr (Ans.o (.agg [(.bool (decide (0 < (a.length : Int)))), .ints .u64 a]) (by rw [H.1, H.2])))
 ·refine W.gb false (c == true) (congrArg (fun b => b == true) (bfalse e)) ?_
  refine W.gb false (c == true) (congrArg (fun b => b == true) (bfalse e)) ?_
  refine W.gb false (c == true) (congrArg (fun b => b == true) (bfalse e)) ?_
  refine W.opS (O.pk c false (.tuple []) (.bool false) (bfalse e)) ?_
  exact W.adv 6 (W.fr (Ans.o (.agg [.bool false, .ints .u64 a]) (by rw [H.1, H.2])))
theorem whole_Made_go {c : Bool} {f : List Int} {i : Bool} {k : List Int} (H : ∃ a l, nat_Make_R f a l ∧ (c = true ∧ i = (decide (0 < (a.length : Int))) ∧ k = a ∨ ¬ c = true ∧ i = false ∧ k = a)) : whole_Made_R c f i k := by
 refine W.ii Tryz.func148 ?_
 refine W.adv 8 ?_
 obtain ⟨a, l, m, H⟩ := H
 refine W.cl 180 [.ints .u64 f] (.tuple [.ints .u64 a, .int .i64 l]) m ?_
 refine W.adv 11 ?_
 rcases H with ⟨e, H⟩ | ⟨e, H⟩
 ·refine W.gb true (c == true) (congrArg (fun b => b == true) e) ?_
  refine W.adv 1 (W.gb true (c == true) (congrArg (fun b => b == true) e) ?_)
  refine W.adv 1 (W.gb true (c == true) (congrArg (fun b => b == true) e) ?_)
  refine W.adv 1 (W.opS (O.pk c true (.bool (decide (0 < (a.length : Int)))) (.bool false) e) ?_)
  exact W.adv 6 (W.fr (Ans.o (.agg [(.bool (decide (0 < (a.length : Int)))), .ints .u64 a]) (by rw [H.1, H.2])))
 ·refine W.gb false (c == true) (congrArg (fun b => b == true) (bfalse e)) ?_
  refine W.gb false (c == true) (congrArg (fun b => b == true) (bfalse e)) ?_
  refine W.gb false (c == true) (congrArg (fun b => b == true) (bfalse e)) ?_
  refine W.opS (O.pk c false (.tuple []) (.bool false) (bfalse e)) ?_
  exact W.adv 6 (W.fr (Ans.o (.agg [.bool false, .ints .u64 a]) (by rw [H.1, H.2])))
theorem whole_Neg_go {c : Bool} {e : List Int} {f : Bool} {i : List Int} (H : ∃ a b, whole_Made_R (!c) e a b ∧ f = a ∧ i = b) : whole_Neg_R c e f i := by
 refine W.ii Tryz.func184 ?_
 refine W.adv 13 ?_
 obtain ⟨a, b, k, H⟩ := H
 refine W.cl 148 [(.bool (!c)), .ints .u64 e] (.agg [.bool a, .ints .u64 b]) k ?_
 exact W.adv 4 (W.fr (Ans.o (.agg [.bool a, .ints .u64 b]) (by rw [H.1, H.2])))
end Go.Proofs.YtjcdkemnflmfiaaGreatA
namespace Go.Proofs.YtjcdkemnflmfiaaGreatA
open Go Go.Proofs
theorem rat_Sign_go {b : Bool} {c e : List Int} {z : Int} (H : ∃ a, whole_Sign_R b c a ∧ (z = a)) : rat_Sign_R b c e z := by
 refine W.ii Tryz.func25 ?_
 refine W.adv 10 ?_
 obtain ⟨a, f, H⟩ := H
 refine W.cl 71 [(.agg [.bool b, .ints .u64 c])] (.int .i64 a) f ?_
 exact W.adv 4 (W.fr (Ans.o (.int .i64 a) (by rw [H])))
theorem rat_Frac_go {m n : Int} {p : Bool} {q s : List Int} {t : Int} (H : ∃ f i, whole_Of_R m f i ∧ ∃ k l, whole_Of_R n k l ∧ ∃ a b c e, rat_Make_R f i k l a b c e ∧ p = a ∧ q = b ∧ s = c ∧ t = e) : rat_Frac_R m n p q s t := by
 refine W.ii Tryz.func35 ?_
 refine W.adv 9 ?_
 obtain ⟨f, i, u, H⟩ := H
 refine W.cl 100 [.int .i64 m] (.agg [.bool f, .ints .u64 i]) u ?_
 refine W.adv 1 ?_
 obtain ⟨k, l, v, H⟩ := H
 refine W.cl 100 [.int .i64 n] (.agg [.bool k, .ints .u64 l]) v ?_
 obtain ⟨a, b, c, e, w, H⟩ := H
 refine W.cl 99 [(.agg [.bool f, .ints .u64 i]), (.agg [.bool k, .ints .u64 l])] (.tuple [(.agg [.bool a, .ints .u64 b, .ints .u64 c]), .int .i64 e]) w ?_
 exact W.adv 7 (W.fr (Ans.o (.tuple [(.agg [.bool a, .ints .u64 b, .ints .u64 c]), .int .i64 e]) (by rw [H.1, H.2.1, H.2.2.1, H.2.2.2])))
theorem rat_Same_go {c : Bool} {p q : List Int} {a : Bool} {s u : List Int} {z : Bool} (H : c = true ∧ ((a = true ∧ ∃ f, nat_Cmp_R p s f ∧ ((f = 0 ∧ ∃ v, nat_Cmp_R q u v ∧ (z = (decide (v = 0)))) ∨ ¬ f = 0 ∧ (z = false))) ∨ ¬ a = true ∧ (z = false)) ∨ ¬ c = true ∧ (a = true ∧ (z = false) ∨ ¬ a = true ∧ ∃ i, nat_Cmp_R p s i ∧ ((i = 0 ∧ ∃ aa, nat_Cmp_R q u aa ∧ (z = (decide (aa = 0)))) ∨ ¬ i = 0 ∧ (z = false)))) : rat_Same_R c p q a s u z := by
 refine W.ii Tryz.func36 ?_
 refine W.adv 17 ?_
 rcases H with ⟨e, H⟩ | ⟨e, H⟩
 ·rcases H with ⟨k, H⟩ | ⟨k, H⟩
  ·refine W.gb true ((c == a) == true) (congrArg (fun b => b == true) (congr (congrArg (fun x y => x == y) e) k)) ?_
   refine W.adv 1 (W.gb true ((c == a) == true) (congrArg (fun b => b == true) (congr (congrArg (fun x y => x == y) e) k)) ?_)
   refine W.adv 1 (W.gb true ((c == a) == true) (congrArg (fun b => b == true) (congr (congrArg (fun x y => x == y) e) k)) ?_)
   refine W.adv 1 (W.gb true ((c == a) == true) (congrArg (fun b => b == true) (congr (congrArg (fun x y => x == y) e) k)) ?_)
   refine W.adv 1 (W.gb true ((c == a) == true) (congrArg (fun b => b == true) (congr (congrArg (fun x y => x == y) e) k)) ?_)
   refine W.adv 1 (W.gb true ((c == a) == true) (congrArg (fun b => b == true) (congr (congrArg (fun x y => x == y) e) k)) ?_)
   refine W.adv 1 (W.gb true ((c == a) == true) (congrArg (fun b => b == true) (congr (congrArg (fun x y => x == y) e) k)) ?_)
   obtain ⟨f, ab, H⟩ := H
   refine W.cl 101 [.ints .u64 p, .ints .u64 s] (.int .i64 f) ab ?_
   refine W.gb true ((c == a) == true) (congrArg (fun b => b == true) (congr (congrArg (fun x y => x == y) e) k)) ?_
   refine W.adv 1 (W.opS (O.pk (c == a) true (.bool (decide (f = 0))) (.bool false) (congr (congrArg (fun x y => x == y) e) k)) ?_)
   refine W.adv 1 ?_
   rcases H with ⟨m, H⟩ | ⟨m, H⟩
   ·refine W.gt (f = 0) m ?_
    refine W.adv 1 (W.gt (f = 0) m ?_)
    refine W.adv 1 (W.gt (f = 0) m ?_)
    refine W.adv 1 (W.gt (f = 0) m ?_)
    refine W.adv 1 (W.gt (f = 0) m ?_)
    obtain ⟨v, ac, H⟩ := H
    refine W.cl 101 [.ints .u64 q, .ints .u64 u] (.int .i64 v) ac ?_
    refine W.gt (f = 0) m ?_
    refine W.adv 1 (W.opS (O.pk (decide (f = 0)) true (.bool (decide (v = 0))) (.bool false) (decide_eq_true m)) ?_)
    exact W.adv 4 (W.fr (Ans.o (.bool (decide (v = 0))) (by rw [H])))
   ·refine W.gf (f = 0) m ?_
    refine W.gf (f = 0) m ?_
    refine W.gf (f = 0) m ?_
    refine W.gf (f = 0) m ?_
    refine W.gf (f = 0) m ?_
    refine W.gf (f = 0) m ?_
    refine W.opS (O.pk (decide (f = 0)) false (.tuple []) (.bool false) (decide_eq_false m)) ?_
    exact W.adv 4 (W.fr (Ans.o (.bool false) (by rw [H])))
  ·refine W.gb false ((c == a) == true) (congrArg (fun b => b == true) (congr (congrArg (fun x y => x == y) e) (bfalse k))) ?_
   refine W.gb false ((c == a) == true) (congrArg (fun b => b == true) (congr (congrArg (fun x y => x == y) e) (bfalse k))) ?_
   refine W.gb false ((c == a) == true) (congrArg (fun b => b == true) (congr (congrArg (fun x y => x == y) e) (bfalse k))) ?_
   refine W.gb false ((c == a) == true) (congrArg (fun b => b == true) (congr (congrArg (fun x y => x == y) e) (bfalse k))) ?_
   refine W.gb false ((c == a) == true) (congrArg (fun b => b == true) (congr (congrArg (fun x y => x == y) e) (bfalse k))) ?_
   refine W.gb false ((c == a) == true) (congrArg (fun b => b == true) (congr (congrArg (fun x y => x == y) e) (bfalse k))) ?_
   refine W.gb false ((c == a) == true) (congrArg (fun b => b == true) (congr (congrArg (fun x y => x == y) e) (bfalse k))) ?_
   refine W.gb false ((c == a) == true) (congrArg (fun b => b == true) (congr (congrArg (fun x y => x == y) e) (bfalse k))) ?_
   refine W.opS (O.pk (c == a) false (.tuple []) (.bool false) (congr (congrArg (fun x y => x == y) e) (bfalse k))) ?_
   exact W.adv 12 (W.fr (Ans.o (.bool false) (by rw [H])))
 ·rcases H with ⟨l, H⟩ | ⟨l, H⟩
  ·refine W.gb false ((c == a) == true) (congrArg (fun b => b == true) (congr (congrArg (fun x y => x == y) (bfalse e)) l)) ?_
   refine W.gb false ((c == a) == true) (congrArg (fun b => b == true) (congr (congrArg (fun x y => x == y) (bfalse e)) l)) ?_
   refine W.gb false ((c == a) == true) (congrArg (fun b => b == true) (congr (congrArg (fun x y => x == y) (bfalse e)) l)) ?_
   refine W.gb false ((c == a) == true) (congrArg (fun b => b == true) (congr (congrArg (fun x y => x == y) (bfalse e)) l)) ?_
   refine W.gb false ((c == a) == true) (congrArg (fun b => b == true) (congr (congrArg (fun x y => x == y) (bfalse e)) l)) ?_
   refine W.gb false ((c == a) == true) (congrArg (fun b => b == true) (congr (congrArg (fun x y => x == y) (bfalse e)) l)) ?_
   refine W.gb false ((c == a) == true) (congrArg (fun b => b == true) (congr (congrArg (fun x y => x == y) (bfalse e)) l)) ?_
   refine W.gb false ((c == a) == true) (congrArg (fun b => b == true) (congr (congrArg (fun x y => x == y) (bfalse e)) l)) ?_
   refine W.opS (O.pk (c == a) false (.tuple []) (.bool false) (congr (congrArg (fun x y => x == y) (bfalse e)) l)) ?_
   exact W.adv 12 (W.fr (Ans.o (.bool false) (by rw [H])))
  ·refine W.gb true ((c == a) == true) (congrArg (fun b => b == true) (congr (congrArg (fun x y => x == y) (bfalse e)) (bfalse l))) ?_
   refine W.adv 1 (W.gb true ((c == a) == true) (congrArg (fun b => b == true) (congr (congrArg (fun x y => x == y) (bfalse e)) (bfalse l))) ?_)
   refine W.adv 1 (W.gb true ((c == a) == true) (congrArg (fun b => b == true) (congr (congrArg (fun x y => x == y) (bfalse e)) (bfalse l))) ?_)
   refine W.adv 1 (W.gb true ((c == a) == true) (congrArg (fun b => b == true) (congr (congrArg (fun x y => x == y) (bfalse e)) (bfalse l))) ?_)
   refine W.adv 1 (W.gb true ((c == a) == true) (congrArg (fun b => b == true) (congr (congrArg (fun x y => x == y) (bfalse e)) (bfalse l))) ?_)
   refine W.adv 1 (W.gb true ((c == a) == true) (congrArg (fun b => b == true) (congr (congrArg (fun x y => x == y) (bfalse e)) (bfalse l))) ?_)
   refine W.adv 1 (W.gb true ((c == a) == true) (congrArg (fun b => b == true) (congr (congrArg (fun x y => x == y) (bfalse e)) (bfalse l))) ?_)
   obtain ⟨i, ad, H⟩ := H
   refine W.cl 101 [.ints .u64 p, .ints .u64 s] (.int .i64 i) ad ?_
   refine W.gb true ((c == a) == true) (congrArg (fun b => b == true) (congr (congrArg (fun x y => x == y) (bfalse e)) (bfalse l))) ?_
   refine W.adv 1 (W.opS (O.pk (c == a) true (.bool (decide (i = 0))) (.bool false) (congr (congrArg (fun x y => x == y) (bfalse e)) (bfalse l))) ?_)
   refine W.adv 1 ?_
   rcases H with ⟨n, H⟩ | ⟨n, H⟩
   ·refine W.gt (i = 0) n ?_
    refine W.adv 1 (W.gt (i = 0) n ?_)
    refine W.adv 1 (W.gt (i = 0) n ?_)
    refine W.adv 1 (W.gt (i = 0) n ?_)
    refine W.adv 1 (W.gt (i = 0) n ?_)
    obtain ⟨aa, ae, H⟩ := H
    refine W.cl 101 [.ints .u64 q, .ints .u64 u] (.int .i64 aa) ae ?_
    refine W.gt (i = 0) n ?_
    refine W.adv 1 (W.opS (O.pk (decide (i = 0)) true (.bool (decide (aa = 0))) (.bool false) (decide_eq_true n)) ?_)
    exact W.adv 4 (W.fr (Ans.o (.bool (decide (aa = 0))) (by rw [H])))
   ·refine W.gf (i = 0) n ?_
    refine W.gf (i = 0) n ?_
    refine W.gf (i = 0) n ?_
    refine W.gf (i = 0) n ?_
    refine W.gf (i = 0) n ?_
    refine W.gf (i = 0) n ?_
    refine W.opS (O.pk (decide (i = 0)) false (.tuple []) (.bool false) (decide_eq_false n)) ?_
    exact W.adv 4 (W.fr (Ans.o (.bool false) (by rw [H])))
theorem fold_Not_go {k : Bool} {l m : List Int} {n : Bool} {p q : List Int} (H : ∃ e f i, rat_Of_R 1 e f i ∧ ∃ a b c, rat_Sub_R e f i k l m a b c ∧ n = a ∧ p = b ∧ q = c) : fold_Not_R k l m n p q := by
 refine W.ii Tryz.func37 ?_
 refine W.adv 8 ?_
 obtain ⟨e, f, i, s, H⟩ := H
 refine W.cl 38 [.int .i64 1] (.agg [.bool e, .ints .u64 f, .ints .u64 i]) s ?_
 refine W.adv 1 ?_
 obtain ⟨a, b, c, t, H⟩ := H
 refine W.cl 102 [(.agg [.bool e, .ints .u64 f, .ints .u64 i]), (.agg [.bool k, .ints .u64 l, .ints .u64 m])] (.agg [.bool a, .ints .u64 b, .ints .u64 c]) t ?_
 exact W.adv 4 (W.fr (Ans.o (.agg [.bool a, .ints .u64 b, .ints .u64 c]) (by rw [H.1, H.2.1, H.2.2])))
theorem rat_Of_go {e : Int} {f : Bool} {i k : List Int} (H : ∃ a b, whole_Of_R e a b ∧ ∃ c, rat_one_R c ∧ f = a ∧ i = b ∧ k = c) : rat_Of_R e f i k := by
 refine W.ii Tryz.func38 ?_
 refine W.adv 8 ?_
 obtain ⟨a, b, l, H⟩ := H
 refine W.cl 100 [.int .i64 e] (.agg [.bool a, .ints .u64 b]) l ?_
 obtain ⟨c, m, H⟩ := H
 refine W.cl 103 [] (.ints .u64 c) m ?_
 exact W.adv 5 (W.fr (Ans.o (.agg [.bool a, .ints .u64 b, .ints .u64 c]) (by rw [H.1, H.2.1, H.2.2])))
theorem rat_Add_go {a : Bool} {b f : List Int} {c : Bool} {e i : List Int} {ai : Bool} {ak al : List Int} (H : ∃ n p, rat_up_R c e i n p ∧ ∃ q s, whole_Mul_R a b n p q s ∧ ∃ t u, rat_up_R a b f t u ∧ ∃ v w, whole_Mul_R c e t u v w ∧ ∃ y z, whole_Add_R q s v w y z ∧ ∃ aa ab, rat_up_R a b f aa ab ∧ ∃ ac ad, rat_up_R c e i ac ad ∧ ∃ ae af, whole_Mul_R aa ab ac ad ae af ∧ ∃ k l m ag, rat_Make_R y z ae af k l m ag ∧ ai = k ∧ ak = l ∧ al = m) : rat_Add_R a b f c e i ai ak al := by
 refine W.ii Tryz.func44 ?_
 refine W.adv 12 ?_
 obtain ⟨n, p, am, H⟩ := H
 refine W.cl 114 [(.agg [.bool c, .ints .u64 e, .ints .u64 i])] (.agg [.bool n, .ints .u64 p]) am ?_
 obtain ⟨q, s, an, H⟩ := H
 refine W.cl 113 [(.agg [.bool a, .ints .u64 b]), (.agg [.bool n, .ints .u64 p])] (.agg [.bool q, .ints .u64 s]) an ?_
 refine W.adv 3 ?_
 obtain ⟨t, u, ap, H⟩ := H
 refine W.cl 114 [(.agg [.bool a, .ints .u64 b, .ints .u64 f])] (.agg [.bool t, .ints .u64 u]) ap ?_
 obtain ⟨v, w, aq, H⟩ := H
 refine W.cl 113 [(.agg [.bool c, .ints .u64 e]), (.agg [.bool t, .ints .u64 u])] (.agg [.bool v, .ints .u64 w]) aq ?_
 obtain ⟨y, z, ar, H⟩ := H
 refine W.cl 112 [(.agg [.bool q, .ints .u64 s]), (.agg [.bool v, .ints .u64 w])] (.agg [.bool y, .ints .u64 z]) ar ?_
 refine W.adv 8 ?_
 obtain ⟨aa, ab, au, H⟩ := H
 refine W.cl 114 [(.agg [.bool a, .ints .u64 b, .ints .u64 f])] (.agg [.bool aa, .ints .u64 ab]) au ?_
 refine W.adv 1 ?_
 obtain ⟨ac, ad, av, H⟩ := H
 refine W.cl 114 [(.agg [.bool c, .ints .u64 e, .ints .u64 i])] (.agg [.bool ac, .ints .u64 ad]) av ?_
 obtain ⟨ae, af, aw, H⟩ := H
 refine W.cl 113 [(.agg [.bool aa, .ints .u64 ab]), (.agg [.bool ac, .ints .u64 ad])] (.agg [.bool ae, .ints .u64 af]) aw ?_
 obtain ⟨k, l, m, ag, ay, H⟩ := H
 refine W.cl 99 [(.agg [.bool y, .ints .u64 z]), (.agg [.bool ae, .ints .u64 af])] (.tuple [(.agg [.bool k, .ints .u64 l, .ints .u64 m]), .int .i64 ag]) ay ?_
 exact W.adv 15 (W.fr (Ans.o (.agg [.bool k, .ints .u64 l, .ints .u64 m]) (by rw [H.1, H.2.1, H.2.2])))
theorem rat_Mul_go {a : Bool} {b v : List Int} {c : Bool} {e w : List Int} {z : Bool} {aa ab : List Int} (H : ∃ l m, whole_Mul_R a b c e l m ∧ ∃ n p, rat_up_R a b v n p ∧ ∃ q s, rat_up_R c e w q s ∧ ∃ t u, whole_Mul_R n p q s t u ∧ ∃ f i k y, rat_Make_R l m t u f i k y ∧ z = f ∧ aa = i ∧ ab = k) : rat_Mul_R a b v c e w z aa ab := by
 refine W.ii Tryz.func45 ?_
 refine W.adv 13 ?_
 obtain ⟨l, m, ac, H⟩ := H
 refine W.cl 113 [(.agg [.bool a, .ints .u64 b]), (.agg [.bool c, .ints .u64 e])] (.agg [.bool l, .ints .u64 m]) ac ?_
 refine W.adv 1 ?_
 obtain ⟨n, p, ad, H⟩ := H
 refine W.cl 114 [(.agg [.bool a, .ints .u64 b, .ints .u64 v])] (.agg [.bool n, .ints .u64 p]) ad ?_
 refine W.adv 1 ?_
 obtain ⟨q, s, ae, H⟩ := H
 refine W.cl 114 [(.agg [.bool c, .ints .u64 e, .ints .u64 w])] (.agg [.bool q, .ints .u64 s]) ae ?_
 obtain ⟨t, u, af, H⟩ := H
 refine W.cl 113 [(.agg [.bool n, .ints .u64 p]), (.agg [.bool q, .ints .u64 s])] (.agg [.bool t, .ints .u64 u]) af ?_
 obtain ⟨f, i, k, y, ag, H⟩ := H
 refine W.cl 99 [(.agg [.bool l, .ints .u64 m]), (.agg [.bool t, .ints .u64 u])] (.tuple [(.agg [.bool f, .ints .u64 i, .ints .u64 k]), .int .i64 y]) ag ?_
 exact W.adv 15 (W.fr (Ans.o (.agg [.bool f, .ints .u64 i, .ints .u64 k]) (by rw [H.1, H.2.1, H.2.2])))
theorem rat_Cmp_go {a : Bool} {b t : List Int} {c : Bool} {e u : List Int} {z : Int} (H : ∃ i k, rat_up_R c e u i k ∧ ∃ l m, whole_Mul_R a b i k l m ∧ ∃ n p, rat_up_R a b t n p ∧ ∃ q s, whole_Mul_R c e n p q s ∧ ∃ f, whole_Cmp_R l m q s f ∧ (z = f)) : rat_Cmp_R a b t c e u z := by
 refine W.ii Tryz.func72 ?_
 refine W.adv 12 ?_
 obtain ⟨i, k, v, H⟩ := H
 refine W.cl 114 [(.agg [.bool c, .ints .u64 e, .ints .u64 u])] (.agg [.bool i, .ints .u64 k]) v ?_
 obtain ⟨l, m, w, H⟩ := H
 refine W.cl 113 [(.agg [.bool a, .ints .u64 b]), (.agg [.bool i, .ints .u64 k])] (.agg [.bool l, .ints .u64 m]) w ?_
 refine W.adv 3 ?_
 obtain ⟨n, p, y, H⟩ := H
 refine W.cl 114 [(.agg [.bool a, .ints .u64 b, .ints .u64 t])] (.agg [.bool n, .ints .u64 p]) y ?_
 obtain ⟨q, s, aa, H⟩ := H
 refine W.cl 113 [(.agg [.bool c, .ints .u64 e]), (.agg [.bool n, .ints .u64 p])] (.agg [.bool q, .ints .u64 s]) aa ?_
 obtain ⟨f, ab, H⟩ := H
 refine W.cl 131 [(.agg [.bool l, .ints .u64 m]), (.agg [.bool q, .ints .u64 s])] (.int .i64 f) ab ?_
 exact W.adv 4 (W.fr (Ans.o (.int .i64 f) (by rw [H])))
theorem rat_One_go {f : Bool} {i k : List Int} {z : Bool} (H : ∃ b c e, rat_Of_R 1 b c e ∧ ∃ a, rat_Same_R f i k b c e a ∧ (z = a)) : rat_One_R f i k z := by
 refine W.ii Tryz.func73 ?_
 refine W.adv 9 ?_
 obtain ⟨b, c, e, l, H⟩ := H
 refine W.cl 38 [.int .i64 1] (.agg [.bool b, .ints .u64 c, .ints .u64 e]) l ?_
 obtain ⟨a, m, H⟩ := H
 refine W.cl 36 [(.agg [.bool f, .ints .u64 i, .ints .u64 k]), (.agg [.bool b, .ints .u64 c, .ints .u64 e])] (.bool a) m ?_
 exact W.adv 4 (W.fr (Ans.o (.bool a) (by rw [H])))
theorem rat_Make_go {m : Bool} {n : List Int} {a : Bool} {b : List Int} {p : Bool} {q s : List Int} {t : Int} (H : ∃ c, whole_Sign_R a b c ∧ (c = 0 ∧ p = false ∧ q = [] ∧ s = [] ∧ t = 3 ∨ ¬ c = 0 ∧ ∃ k l, whole_Made_R (!(m == a)) n k l ∧ ∃ e f i, rat_low_R k l b e f i ∧ p = e ∧ q = f ∧ s = i ∧ t = 0)) : rat_Make_R m n a b p q s t := by
 refine W.ii Tryz.func99 ?_
 refine W.adv 12 ?_
 obtain ⟨c, v, H⟩ := H
 refine W.cl 71 [(.agg [.bool a, .ints .u64 b])] (.int .i64 c) v ?_
 refine W.adv 3 ?_
 rcases H with ⟨u, H⟩ | ⟨u, H⟩
 ·refine W.ct (c = 0) u ?_
  exact W.adv 9 (W.fr (Ans.q (.tuple [(.agg [.bool false, .ints .u64 [], .ints .u64 []]), .int .i64 3]) (by rw [H.1, H.2.1, H.2.2.1, H.2.2.2])))
 ·refine W.cf (c = 0) u ?_
  refine W.adv 11 ?_
  obtain ⟨k, l, y, H⟩ := H
  refine W.cl 148 [(.bool (!(m == a))), .ints .u64 n] (.agg [.bool k, .ints .u64 l]) y ?_
  refine W.adv 2 ?_
  obtain ⟨e, f, i, z, H⟩ := H
  refine W.cl 147 [(.agg [.bool k, .ints .u64 l]), .ints .u64 b] (.agg [.bool e, .ints .u64 f, .ints .u64 i]) z ?_
  exact W.adv 5 (W.fr (Ans.o (.tuple [(.agg [.bool e, .ints .u64 f, .ints .u64 i]), .int .i64 0]) (by rw [H.1, H.2.1, H.2.2.1, H.2.2.2])))
theorem rat_Sub_go {k : Bool} {l m : List Int} {n : Bool} {p q : List Int} {s : Bool} {t u : List Int} (H : ∃ e f i, rat_Neg_R n p q e f i ∧ ∃ a b c, rat_Add_R k l m e f i a b c ∧ s = a ∧ t = b ∧ u = c) : rat_Sub_R k l m n p q s t u := by
 refine W.ii Tryz.func102 ?_
 refine W.adv 11 ?_
 obtain ⟨e, f, i, v, H⟩ := H
 refine W.cl 151 [(.agg [.bool n, .ints .u64 p, .ints .u64 q])] (.agg [.bool e, .ints .u64 f, .ints .u64 i]) v ?_
 obtain ⟨a, b, c, w, H⟩ := H
 refine W.cl 44 [(.agg [.bool k, .ints .u64 l, .ints .u64 m]), (.agg [.bool e, .ints .u64 f, .ints .u64 i])] (.agg [.bool a, .ints .u64 b, .ints .u64 c]) w ?_
 exact W.adv 4 (W.fr (Ans.o (.agg [.bool a, .ints .u64 b, .ints .u64 c]) (by rw [H.1, H.2.1, H.2.2])))
theorem rat_one_go {z : List Int} (H : ∃ a, nat_Of_R 1 a ∧ (z = a)) : rat_one_R z := by
 refine W.ii Tryz.func103 ?_
 refine W.adv 7 ?_
 obtain ⟨a, b, H⟩ := H
 refine W.cl 150 [.int .u64 1] (.ints .u64 a) b ?_
 exact W.adv 4 (W.fr (Ans.o (.ints .u64 a) (by rw [H])))
theorem rat_up_go {e : Bool} {f c : List Int} {i : Bool} {k : List Int} (H : ∃ a b, whole_Made_R false c a b ∧ i = a ∧ k = b) : rat_up_R e f c i k := by
 refine W.ii Tryz.func114 ?_
 refine W.adv 10 ?_
 obtain ⟨a, b, l, H⟩ := H
 refine W.cl 148 [.bool false, .ints .u64 c] (.agg [.bool a, .ints .u64 b]) l ?_
 exact W.adv 4 (W.fr (Ans.o (.agg [.bool a, .ints .u64 b]) (by rw [H.1, H.2])))
theorem rat_Div_go {m : Bool} {n p : List Int} {q : Bool} {s t : List Int} {u : Bool} {v y : List Int} {z : Int} (H : ∃ i k l a, rat_Inv_R q s t i k l a ∧ ((a = 0 ∧ ∃ c e f, rat_Mul_R m n p i k l c e f ∧ u = c ∧ v = e ∧ y = f ∧ z = a) ∨ ¬ a = 0 ∧ u = false ∧ v = [] ∧ y = [] ∧ z = a)) : rat_Div_R m n p q s t u v y z := by
 refine W.ii Tryz.func121 ?_
 refine W.adv 11 ?_
 obtain ⟨i, k, l, a, ab, H⟩ := H
 refine W.cl 162 [(.agg [.bool q, .ints .u64 s, .ints .u64 t])] (.tuple [(.agg [.bool i, .ints .u64 k, .ints .u64 l]), .int .i64 a]) ab ?_
 refine W.adv 15 ?_
 rcases H with ⟨aa, H⟩ | ⟨aa, H⟩
 ·refine W.cb false (!(decide (a = 0))) (congrArg (fun b => !b) (decide_eq_true aa)) ?_
  refine W.adv 6 ?_
  obtain ⟨c, e, f, ac, H⟩ := H
  refine W.cl 45 [(.agg [.bool m, .ints .u64 n, .ints .u64 p]), (.agg [.bool i, .ints .u64 k, .ints .u64 l])] (.agg [.bool c, .ints .u64 e, .ints .u64 f]) ac ?_
  exact W.adv 6 (W.fr (Ans.o (.tuple [(.agg [.bool c, .ints .u64 e, .ints .u64 f]), .int .i64 a]) (by rw [H.1, H.2.1, H.2.2.1, H.2.2.2])))
 ·refine W.cb true (!(decide (a = 0))) (congrArg (fun b => !b) (decide_eq_false aa)) ?_
  exact W.adv 10 (W.fr (Ans.q (.tuple [(.agg [.bool false, .ints .u64 [], .ints .u64 []]), .int .i64 a]) (by rw [H.1, H.2.1, H.2.2.1, H.2.2.2])))
theorem rat_low_go {l : Bool} {b c : List Int} {p : Bool} {q s : List Int} (H : ∃ a, gcd_Euclid_R b c a ∧ ∃ k m, divide_Exact_R b a k m ∧ ∃ e n, divide_Exact_R c a e n ∧ ∃ f i, whole_Made_R l k f i ∧ p = f ∧ q = i ∧ s = e) : rat_low_R l b c p q s := by
 refine W.ii Tryz.func147 ?_
 refine W.adv 11 ?_
 obtain ⟨a, t, H⟩ := H
 refine W.cl 178 [.ints .u64 b, .ints .u64 c] (.ints .u64 a) t ?_
 refine W.adv 8 ?_
 obtain ⟨k, m, u, H⟩ := H
 refine W.cl 179 [.ints .u64 b, .ints .u64 a] (.tuple [.ints .u64 k, .int .i64 m]) u ?_
 refine W.adv 11 ?_
 obtain ⟨e, n, v, H⟩ := H
 refine W.cl 179 [.ints .u64 c, .ints .u64 a] (.tuple [.ints .u64 e, .int .i64 n]) v ?_
 refine W.adv 12 ?_
 obtain ⟨f, i, w, H⟩ := H
 refine W.cl 148 [.bool l, .ints .u64 k] (.agg [.bool f, .ints .u64 i]) w ?_
 exact W.adv 6 (W.fr (Ans.o (.agg [.bool f, .ints .u64 i, .ints .u64 e]) (by rw [H.1, H.2.1, H.2.2])))
theorem rat_Neg_go {a : Bool} {b i : List Int} {l : Bool} {m n : List Int} (H : ∃ c e, whole_Neg_R a b c e ∧ ∃ k f, rat_up_R a b i k f ∧ l = c ∧ m = e ∧ n = f) : rat_Neg_R a b i l m n := by
 refine W.ii Tryz.func151 ?_
 refine W.adv 10 ?_
 obtain ⟨c, e, p, H⟩ := H
 refine W.cl 184 [(.agg [.bool a, .ints .u64 b])] (.agg [.bool c, .ints .u64 e]) p ?_
 refine W.adv 1 ?_
 obtain ⟨k, f, q, H⟩ := H
 refine W.cl 114 [(.agg [.bool a, .ints .u64 b, .ints .u64 i])] (.agg [.bool k, .ints .u64 f]) q ?_
 exact W.adv 6 (W.fr (Ans.o (.agg [.bool c, .ints .u64 e, .ints .u64 f]) (by rw [H.1, H.2.1, H.2.2])))
theorem rat_Inv_go {a : Bool} {b m : List Int} {n : Bool} {p q : List Int} {s : Int} (H : ∃ k l, rat_up_R a b m k l ∧ ∃ c e f i, rat_Make_R k l a b c e f i ∧ n = c ∧ p = e ∧ q = f ∧ s = i) : rat_Inv_R a b m n p q s := by
 refine W.ii Tryz.func162 ?_
 refine W.adv 10 ?_
 obtain ⟨k, l, t, H⟩ := H
 refine W.cl 114 [(.agg [.bool a, .ints .u64 b, .ints .u64 m])] (.agg [.bool k, .ints .u64 l]) t ?_
 refine W.adv 2 ?_
 obtain ⟨c, e, f, i, u, H⟩ := H
 refine W.cl 99 [(.agg [.bool k, .ints .u64 l]), (.agg [.bool a, .ints .u64 b])] (.tuple [(.agg [.bool c, .ints .u64 e, .ints .u64 f]), .int .i64 i]) u ?_
 exact W.adv 7 (W.fr (Ans.o (.tuple [(.agg [.bool c, .ints .u64 e, .ints .u64 f]), .int .i64 i]) (by rw [H.1, H.2.1, H.2.2.1, H.2.2.2])))
end Go.Proofs.YtjcdkemnflmfiaaGreatA
namespace Go.Proofs.YtjcdkemnflmfiaaGreatA
open Go Go.Proofs
section
variable (u aa : List T_api_Rat) (p c : Int) (ab : List T_api_Rat) (z : Bool)
noncomputable def fold_Whole_l0_s (j : Nat → D) (jb : Nat → Blk) (vs : Nat → Nat) : Cf := cfAt Tryz.f26 [1, 0, 1, 0] ⟨([(.list 3 (u.map E_api_Rat))] ++ (J j 1 4 ++ ([(.list 3 (aa.map E_api_Rat)), .int .i64 p, .int .i64 c] ++ J j 8 16))), (J jb 0 24)⟩
def fold_Whole_l0 : Prop := ∀ j jb vs, W C F 26 0 (fold_Whole_l0_s u aa p c  j jb vs) (Ans C Tryz.f26 (.bool z))
variable {u aa p c ab z}
theorem fold_Whole_l0_go (H : (c < p ∧ 0 ≤ c ∧ c < (aa.length : Int) ∧ ∃ e f k, aa.getD (c).toNat (false, [], []) = (e, f, k) ∧ ∃ l, rat_Sign_R e f k l ∧ (l < 0 ∧ (z = false) ∨ ¬ l < 0 ∧ ∃ ae af ag, rat_Of_R 1 ae af ag ∧ ∃ ac, rat_Cmp_R e f k ae af ag ac ∧ (0 < ac ∧ (z = false) ∨ ¬ 0 < ac ∧ fold_Whole_l0 u aa p (wi (c + 1)) z))) ∨ ¬ c < p ∧ ∃ ai ak al, fold_Sum_R u ai ak al ∧ ∃ ad, rat_One_R ai ak al ad ∧ (z = ad)) : fold_Whole_l0 u aa p c z := by
 intro j jb vs
 refine W.adv 1 (W.adv 6 ?_)
 rcases H with ⟨am, H⟩ | ⟨am, H⟩
 ·refine W.ct (c < p) am ?_
  refine W.adv 6 ?_
  obtain ⟨ap, aq, H⟩ := H
  obtain ⟨e, f, k, ar, H⟩ := H
  refine W.opS (O.ixE E_api_Rat 3 .i64 aa c (false, [], []) (e, f, k) ap aq ar) ?_
  refine W.adv 2 (W.opH (O.stV 4 ((jb 4).ver + 1) 0 0 3 3 [(.agg [.bool false, .nilS, .nilS])] [(.agg [.bool e, .ints .u64 f, .ints .u64 k])] (.agg [.bool false, .nilS, .nilS]) (.agg [.bool e, .ints .u64 f, .ints .u64 k])) ?_)
  refine W.adv 4 (W.opS (O.ldV 4 ((jb 4).ver + 1) 0 0 3 3 false true [(.agg [.bool e, .ints .u64 f, .ints .u64 k])] (.agg [.bool e, .ints .u64 f, .ints .u64 k])) ?_)
  obtain ⟨l, au, H⟩ := H
  refine W.cl 25 [(.agg [.bool e, .ints .u64 f, .ints .u64 k])] (.int .i64 l) au ?_
  refine W.adv 2 ?_
  rcases H with ⟨q, H⟩ | ⟨q, H⟩
  ·refine W.gt' (l < 0) q ?_
   refine W.gt' (l < 0) q ?_
   refine W.gt' (l < 0) q ?_
   refine W.gt' (l < 0) q ?_
   refine W.opS (O.pk (decide (l < 0)) true (.bool true) (.tuple []) (decide_eq_true q)) ?_
   exact W.adv 14 (W.fr (Ans.o (.bool false) (by rw [H])))
  ·refine W.gf' (l < 0) q ?_
   refine W.opS (O.ldV 4 ((jb 4).ver + 1) 0 0 3 3 false true [(.agg [.bool e, .ints .u64 f, .ints .u64 k])] (.agg [.bool e, .ints .u64 f, .ints .u64 k])) ?_
   refine W.gf' (l < 0) q ?_
   obtain ⟨ae, af, ag, av, H⟩ := H
   refine W.cl 38 [.int .i64 1] (.agg [.bool ae, .ints .u64 af, .ints .u64 ag]) av ?_
   refine W.gf' (l < 0) q ?_
   obtain ⟨ac, aw, H⟩ := H
   refine W.cl 72 [(.agg [.bool e, .ints .u64 f, .ints .u64 k]), (.agg [.bool ae, .ints .u64 af, .ints .u64 ag])] (.int .i64 ac) aw ?_
   refine W.gf' (l < 0) q ?_
   refine W.adv 1 (W.opS (O.pk (decide (l < 0)) false (.bool true) (.bool (decide (0 < ac))) (decide_eq_false q)) ?_)
   refine W.adv 2 ?_
   rcases H with ⟨an, H⟩ | ⟨an, H⟩
   ·refine W.ct (0 < ac) an ?_
    exact W.adv 11 (W.fr (Ans.o (.bool false) (by rw [H])))
   ·refine W.cf (0 < ac) an ?_
    exact W.adv 8 (W.tl H)
 ·refine W.cf (c < p) am ?_
  refine W.adv 8 ?_
  obtain ⟨ai, ak, al, ay, H⟩ := H
  refine W.callT (g := 74) (ds := [(.list 3 (u.map E_api_Rat))]) (es := [(.list 3 (u.map E_api_Rat))]) (r := (.agg [.bool ai, .ints .u64 ak, .ints .u64 al])) (by kernel_rfl) (by kernel_rfl) (by kernel_rfl) (Ic.args ay (by kernel_rfl)) ?_
  obtain ⟨ad, az, H⟩ := H
  refine W.cl 73 [(.agg [.bool ai, .ints .u64 ak, .ints .u64 al])] (.bool ad) az ?_
  exact W.adv 4 (W.fr (Ans.o (.bool ad) (by rw [H])))
theorem fold_Whole_go (H : fold_Whole_l0 ab ab (ab.length : Int) 0 z) : fold_Whole_R ab z := by
 refine W.ii Tryz.func26 ?_
 refine W.adv 9 (W.opS (O.ln ab E_api_Rat) ?_)
 exact W.adv 4 (W.tl H)
end
section
variable (e : List Int) (t c aa q : Int) (ab : Bool) (ac ad : List Int) (f : List T_api_Rat) (u : Nat) (ap : List Int) (l : List T_api_Rat) (p : Int)
noncomputable def fold_Shares_l0_s (j : Nat → D) (jb : Nat → Blk) (vs : Nat → Nat) : Cf := cfAt Tryz.f59 [1, 1, 1, 0, 1, 0] ⟨(J j 0 4 ++ ([.nilS] ++ (J j 5 10 ++ ([.ints .i64 e, .int .i64 t, .int .i64 c] ++ J j 18 35)))), (J jb 0 53)⟩
def fold_Shares_l0 : Prop := ∀ j jb vs, W C F 59 0 (fold_Shares_l0_s e t c  j jb vs) (Ans C Tryz.f59 (.tuple [(.list 3 (l.map E_api_Rat)), .int .i64 p]))
noncomputable def fold_Shares_l1_s (j : Nat → D) (jb : Nat → Blk) (vs : Nat → Nat) : Cf := cfAt Tryz.f59 [1, 1, 1, 0, 1, 0] ⟨(J j 0 4 ++ ([(.sref 27 ((vs 27) + 1) 3 0 u)] ++ (J j 5 10 ++ ([.ints .i64 e, .int .i64 t, .int .i64 c] ++ J j 18 35)))), (J jb 0 27 ++ ([⟨((vs 27) + 1), false, .rows 3 (f.map E_api_Rat)⟩] ++ J jb 28 25))⟩
def fold_Shares_l1 : Prop := ∀ u, u = f.length → ∀ j jb vs, W C F 59 0 (fold_Shares_l1_s e t c f u j jb vs) (Ans C Tryz.f59 (.tuple [(.list 3 (l.map E_api_Rat)), .int .i64 p]))
noncomputable def fold_Shares_l2_s (j : Nat → D) (jb : Nat → Blk) (vs : Nat → Nat) : Cf := cfAt Tryz.f59 [1, 1, 1, 1, 1, 0, 1, 0] ⟨(J j 0 4 ++ ([.nilS, j 5, j 6, (.pref 7 ((vs 7) + 1) 0 0)] ++ (J j 8 23 ++ ([.nilS, .int .i64 aa, .int .i64 q] ++ J j 34 19)))), (J jb 0 7 ++ ([⟨((vs 7) + 1), false, .rows 3 [(.agg [.bool ab, .ints .u64 ac, .ints .u64 ad])]⟩] ++ J jb 8 45))⟩
def fold_Shares_l2 : Prop := ∀ j jb vs, W C F 59 0 (fold_Shares_l2_s aa q ab ac ad  j jb vs) (Ans C Tryz.f59 (.tuple [(.list 3 (l.map E_api_Rat)), .int .i64 p]))
noncomputable def fold_Shares_l3_s (j : Nat → D) (jb : Nat → Blk) (vs : Nat → Nat) : Cf := cfAt Tryz.f59 [1, 1, 1, 1, 1, 0, 1, 0] ⟨(J j 0 4 ++ ([(.sref 27 ((vs 27) + 1) 3 0 u), j 5, j 6, (.pref 7 ((vs 7) + 1) 0 0)] ++ (J j 8 23 ++ ([(.sref 27 ((vs 27) + 1) 3 0 u), .int .i64 aa, .int .i64 q] ++ J j 34 19)))), (J jb 0 7 ++ ([⟨((vs 7) + 1), false, .rows 3 [(.agg [.bool ab, .ints .u64 ac, .ints .u64 ad])]⟩] ++ (J jb 8 19 ++ ([⟨((vs 27) + 1), false, .rows 3 (f.map E_api_Rat)⟩] ++ J jb 28 43))))⟩
def fold_Shares_l3 : Prop := ∀ u, u = f.length → ∀ j jb vs, W C F 59 0 (fold_Shares_l3_s aa q ab ac ad f u j jb vs) (Ans C Tryz.f59 (.tuple [(.list 3 (l.map E_api_Rat)), .int .i64 p]))
variable {e t c aa q ab ac ad f u ap l p}
theorem fold_Shares_l0_go (H : c < t ∧ 0 ≤ c ∧ c < (e.length : Int) ∧ ((e.getD (c).toNat 0) < 0 ∧ l = ([] : List T_api_Rat) ∧ p = 2 ∨ ¬ (e.getD (c).toNat 0) < 0 ∧ ∃ a1 a2 a3, rat_Of_R (e.getD (c).toNat 0) a1 a2 a3 ∧ (1 + 192) * (56 + 1) ≤ 70368744177664 ∧ ∃ a7, a7 = [(a1, a2, a3)] ∧ fold_Shares_l1 e t (wi (c + 1)) a7 l p) ∨ ¬ c < t ∧ ∃ ar au av, fold_Sum_R ([] : List T_api_Rat) ar au av ∧ fold_Shares_l2 0 0 ar au av l p) : fold_Shares_l0 e t c l p := by
 intro j jb vs
 refine W.adv 1 (W.adv 6 ?_)
 rcases H with ⟨ba, H⟩ | ⟨ba, H⟩
 ·refine W.ct (c < t) ba ?_
  refine W.adv 6 ?_
  obtain ⟨bq, br, H⟩ := H
  refine W.opS (O.ixI .i64 .i64 e c bq br) ?_
  refine W.adv 11 ?_
  rcases H with ⟨bb, H⟩ | ⟨bb, H⟩
  ·refine W.ct ((e.getD (c).toNat 0) < 0) bb ?_
   exact W.adv 13 (W.fr (Ans.q (.tuple [(.list 3 (([] : List T_api_Rat).map E_api_Rat)), .int .i64 2]) (by rw [H.1, H.2])))
  ·refine W.cf ((e.getD (c).toNat 0) < 0) bb ?_
   refine W.adv 5 ?_
   obtain ⟨a1, a2, a3, bs, H⟩ := H
   refine W.cl 38 [(.int .i64 (e.getD (c).toNat 0))] (.agg [.bool a1, .ints .u64 a2, .ints .u64 a3]) bs ?_
   refine W.adv 1 ?_
   obtain ⟨bt, H⟩ := H
   obtain ⟨a7, bi, H⟩ := H
   have bu : 1 = a7.length := by rw [bi] <;> rfl
   refine W.opH (O.apENil E_api_Rat (.lit (.list 3 [(.agg [.bool a1, .ints .u64 a2, .ints .u64 a3])])) 56 27 ((jb 27).ver) 3 [(a1, a2, a3)] bi bt) ?_
   exact W.adv 9 (W.tl (H _ bu))
 ·refine W.cf (c < t) ba ?_
  refine W.adv 8 ?_
  obtain ⟨ar, au, av, bv, H⟩ := H
  refine W.callT (g := 74) (ds := [.nilS]) (es := [.nilS]) (r := (.agg [.bool ar, .ints .u64 au, .ints .u64 av])) (by kernel_rfl) (by kernel_rfl) (by kernel_rfl) (Ic.args bv (by kernel_rfl)) ?_
  refine W.adv 1 (W.opH (O.stV 7 ((jb 7).ver + 1) 0 0 3 3 [(.agg [.bool false, .nilS, .nilS])] [(.agg [.bool ar, .ints .u64 au, .ints .u64 av])] (.agg [.bool false, .nilS, .nilS]) (.agg [.bool ar, .ints .u64 au, .ints .u64 av])) ?_)
  exact W.adv 11 (W.tl H)
theorem fold_Shares_l1_go (H : c < t ∧ 0 ≤ c ∧ c < (e.length : Int) ∧ ((e.getD (c).toNat 0) < 0 ∧ l = ([] : List T_api_Rat) ∧ p = 2 ∨ ¬ (e.getD (c).toNat 0) < 0 ∧ ∃ a4 a5 a6, rat_Of_R (e.getD (c).toNat 0) a4 a5 a6 ∧ (f.length + 1 + 192) * (56 + 1) ≤ 70368744177664 ∧ ∃ a8, a8 = f ++ [(a4, a5, a6)] ∧ fold_Shares_l1 e t (wi (c + 1)) a8 l p) ∨ ¬ c < t ∧ ∃ aw ay az ak, ak.length = f.length ∧ fold_Sum_S_R f aw ay az ak ∧ fold_Shares_l3 (ak.length : Int) 0 aw ay az ak l p) : fold_Shares_l1 e t c f l p := by
 intro u aq j jb vs
 refine W.adv 1 (W.adv 6 ?_)
 rcases H with ⟨bc, H⟩ | ⟨bc, H⟩
 ·refine W.ct (c < t) bc ?_
  refine W.adv 6 ?_
  obtain ⟨bw, bz, H⟩ := H
  refine W.opS (O.ixI .i64 .i64 e c bw bz) ?_
  refine W.adv 11 ?_
  rcases H with ⟨bd, H⟩ | ⟨bd, H⟩
  ·refine W.ct ((e.getD (c).toNat 0) < 0) bd ?_
   exact W.adv 13 (W.fr (Ans.q (.tuple [(.list 3 (([] : List T_api_Rat).map E_api_Rat)), .int .i64 2]) (by rw [H.1, H.2])))
  ·refine W.cf ((e.getD (c).toNat 0) < 0) bd ?_
   refine W.adv 5 ?_
   obtain ⟨a4, a5, a6, b0, H⟩ := H
   refine W.cl 38 [(.int .i64 (e.getD (c).toNat 0))] (.agg [.bool a4, .ints .u64 a5, .ints .u64 a6]) b0 ?_
   refine W.adv 1 ?_
   obtain ⟨b1, H⟩ := H
   obtain ⟨a8, bk, H⟩ := H
   have b2 : (f.length + 1) = a8.length := by rw [bk, List.length_append] <;> rfl
   refine W.opK (O.apERow E_api_Rat (.lit (.list 3 [(.agg [.bool a4, .ints .u64 a5, .ints .u64 a6])])) 56 27 ((vs 27) + 1) 27 ((vs 27) + 1) u 3 f [(a4, a5, a6)] bk aq b1) ?_
   exact W.adv 9 (W.tl (H _ b2))
 ·refine W.cf (c < t) bc ?_
  refine W.adv 8 ?_
  obtain ⟨aw, ay, az, ak, b3, b4, H⟩ := H
  have bl : u = ak.length := by rw [b3]; exact aq
  refine W.sharedK (g := 74) (ds := [(.sref 27 ((vs 27) + 1) 3 0 u)]) (d := (.agg [.bool aw, .ints .u64 ay, .ints .u64 az])) (P := (fun cb => [cb 0, cb 1, cb 2, cb 3, cb 4, cb 5, cb 6, cb 7, cb 8, cb 9, cb 10, cb 11, cb 12, cb 13, cb 14, cb 15, cb 16, cb 17, cb 18, cb 19, cb 20, cb 21, cb 22, cb 23, cb 24, cb 25, cb 26, ⟨((vs 27) + 1), false, .rows 3 (f.map E_api_Rat)⟩, cb 28, cb 29, cb 30, cb 31, cb 32, cb 33, cb 34, cb 35, cb 36, cb 37, cb 38, cb 39, cb 40, cb 41, cb 42, cb 43, cb 44, cb 45, cb 46, cb 47, cb 48, cb 49, cb 50, cb 51, cb 52])) (P' := (fun cb eb => [cb 0, cb 1, cb 2, cb 3, cb 4, cb 5, cb 6, cb 7, cb 8, cb 9, cb 10, cb 11, cb 12, cb 13, cb 14, cb 15, cb 16, cb 17, cb 18, cb 19, cb 20, cb 21, cb 22, cb 23, cb 24, cb 25, cb 26, ⟨((vs 27) + 1), false, .rows 3 (ak.map E_api_Rat)⟩, cb 28, cb 29, cb 30, cb 31, cb 32, cb 33, cb 34, cb 35, cb 36, cb 37, cb 38, cb 39, cb 40, cb 41, cb 42, cb 43, cb 44, cb 45, cb 46, cb 47, cb 48, cb 49, cb 50, cb 51, cb 52, eb 0, eb 1, eb 2, eb 3, eb 4, eb 5, eb 6, eb 7, eb 8, eb 9, eb 10, eb 11, eb 12, eb 13, eb 14, eb 15, eb 16, eb 17])) (by kernel_rfl) (by kernel_rfl) (by kernel_rfl) (fun cb => b4 cb _ _ aq) (fun eb29 => ?_)
  refine W.adv 1 (W.opH (O.stV 7 ((jb 7).ver + 1) 0 0 3 3 [(.agg [.bool false, .nilS, .nilS])] [(.agg [.bool aw, .ints .u64 ay, .ints .u64 az])] (.agg [.bool false, .nilS, .nilS]) (.agg [.bool aw, .ints .u64 ay, .ints .u64 az])) ?_)
  refine W.adv 6 (W.opS (OpIs.ln (n := u) (m := ak.length) (by kernel_rfl) bl) ?_)
  exact W.adv 4 (W.tl (H _ bl))
theorem fold_Shares_l3_go (H : (q < aa ∧ 0 ≤ q ∧ q < (f.length : Int) ∧ ∃ ae af ag, f.getD (q).toNat (false, [], []) = (ae, af, ag) ∧ ∃ al am an ai, rat_Div_R ae af ag ab ac ad al am an ai ∧ ((ai = 0 ∧ ∃ a9, a9 = f.set (q).toNat (al, am, an) ∧ fold_Shares_l3 aa (wi (q + 1)) ab ac ad a9 l p) ∨ ¬ ai = 0 ∧ l = ([] : List T_api_Rat) ∧ p = ai)) ∨ ¬ q < aa ∧ l = f ∧ p = 0) : fold_Shares_l3 aa q ab ac ad f l p := by
 intro u aq j jb vs
 refine W.adv 1 (W.adv 6 ?_)
 rcases H with ⟨be, H⟩ | ⟨be, H⟩
 ·refine W.ct (q < aa) be ?_
  refine W.adv 7 ?_
  obtain ⟨bm, bn, H⟩ := H
  refine W.opS (O.ixR .i64 27 ((vs 27) + 1) 3 u q bm (by rw [aq]; exact bn)) ?_
  obtain ⟨ae, af, ag, b6, H⟩ := H
  refine W.opS (OpIs.ldE (enc := E_api_Rat) (b := 27) (v := ((vs 27) + 1)) (i := (q).toNat) (off := 0) (w := ((vs 27) + 1)) (n := 3) (s := 3) (fz := false) (a := true) (L := f) (d0 := (false, [], [])) (x := (ae, af, ag)) (r := (.agg [.bool ae, .ints .u64 af, .ints .u64 ag])) (by kernel_rfl) rfl (by omega) b6 (by kernel_rfl)) ?_
  refine W.adv 2 (W.opH (O.stV 9 ((jb 9).ver + 1) 0 0 3 3 [(.agg [.bool false, .nilS, .nilS])] [(.agg [.bool ae, .ints .u64 af, .ints .u64 ag])] (.agg [.bool false, .nilS, .nilS]) (.agg [.bool ae, .ints .u64 af, .ints .u64 ag])) ?_)
  refine W.adv 4 (W.opS (O.ldV 9 ((jb 9).ver + 1) 0 0 3 3 false true [(.agg [.bool ae, .ints .u64 af, .ints .u64 ag])] (.agg [.bool ae, .ints .u64 af, .ints .u64 ag])) ?_)
  refine W.opS (O.ldV 7 ((vs 7) + 1) 0 0 3 3 false true [(.agg [.bool ab, .ints .u64 ac, .ints .u64 ad])] (.agg [.bool ab, .ints .u64 ac, .ints .u64 ad])) ?_
  obtain ⟨al, am, an, ai, b7, H⟩ := H
  refine W.cl 121 [(.agg [.bool ae, .ints .u64 af, .ints .u64 ag]), (.agg [.bool ab, .ints .u64 ac, .ints .u64 ad])] (.tuple [(.agg [.bool al, .ints .u64 am, .ints .u64 an]), .int .i64 ai]) b7 ?_
  refine W.adv 4 (W.opH (O.stV 10 ((jb 10).ver + 1) 0 0 3 3 [(.agg [.bool false, .nilS, .nilS])] [(.agg [.bool al, .ints .u64 am, .ints .u64 an])] (.agg [.bool false, .nilS, .nilS]) (.agg [.bool al, .ints .u64 am, .ints .u64 an])) ?_)
  refine W.adv 10 ?_
  rcases H with ⟨bf, H⟩ | ⟨bf, H⟩
  ·refine W.cb false (!(decide (ai = 0))) (congrArg (fun b => !b) (decide_eq_true bf)) ?_
   refine W.adv 5 (W.opS (O.ldV 10 ((jb 10).ver + 1) 0 0 3 3 false true [(.agg [.bool al, .ints .u64 am, .ints .u64 an])] (.agg [.bool al, .ints .u64 am, .ints .u64 an])) ?_)
   refine W.opS (O.ixR .i64 27 ((vs 27) + 1) 3 u q bm (by rw [aq]; exact bn)) ?_
   obtain ⟨a9, bp, H⟩ := H
   have b8 : u = a9.length := by rw [bp, List.length_set] <;> exact aq
   refine W.opH (OpIs.stE (enc := E_api_Rat) (b := 27) (v := ((vs 27) + 1)) (i := (q).toNat) (off := 0) (w := ((vs 27) + 1)) (n := 3) (s := 3) (L := f) (d0 := (false, [], [])) (x := (f.getD (q).toNat (false, [], []))) (z := (al, am, an)) (y := (.agg [.bool al, .ints .u64 am, .ints .u64 an])) (by kernel_rfl) bp rfl (by omega) rfl (by kernel_rfl) (Nat.le_of_ble_eq_true (by kernel_rfl)) (by kernel_rfl) (by kernel_rfl)) ?_
   exact W.adv 8 (W.tl (H _ b8))
  ·refine W.cb true (!(decide (ai = 0))) (congrArg (fun b => !b) (decide_eq_false bf)) ?_
   exact W.adv 14 (W.fr (Ans.q (.tuple [(.list 3 (([] : List T_api_Rat).map E_api_Rat)), .int .i64 ai]) (by rw [H.1, H.2])))
 ·refine W.cf (q < aa) be ?_
  exact W.adv 13 (W.fr (Ans.of (d := (.tuple [(.sref 27 ((vs 27) + 1) 3 0 u), .int .i64 0])) (d' := (.tuple [(.list 3 (f.map E_api_Rat)), .int .i64 0])) (e' := (.tuple [(.list 3 (f.map E_api_Rat)), .int .i64 0])) (by kernel_rfl) ((congrArg (fun h => reify h DEPTH (.tuple [(.sref 27 ((vs 27) + 1) 3 0 u), .int .i64 0])) (tidy_ver (b := 27) (v := (vs 27)) (fz := false) (y := .rows 3 (f.map E_api_Rat)) (by kernel_rfl))).trans (rf_tup (rf_cons (rf_fullE (enc := E_api_Rat) E_api_Rat_t (b := 27) (v := ((vs 27) + 1)) (w := ((vs 27) + 1)) (fz := false) (xs := f) (by kernel_rfl) rfl aq) (rf_cons (by kernel_rfl) rf_nil)))) (by kernel_rfl) (by rw [H.1, H.2])))
theorem fold_Shares_go (H : (ap.length : Int) = 0 ∧ l = ([] : List T_api_Rat) ∧ p = 9 ∨ ¬ (ap.length : Int) = 0 ∧ fold_Shares_l0 ap (ap.length : Int) 0 l p) : fold_Shares_R ap l p := by
 refine W.ii Tryz.func59 ?_
 refine W.adv 14 ?_
 rcases H with ⟨bg, H⟩ | ⟨bg, H⟩
 ·refine W.ct ((ap.length : Int) = 0) bg ?_
  exact W.adv 8 (W.fr (Ans.q (.tuple [(.list 3 (([] : List T_api_Rat).map E_api_Rat)), .int .i64 9]) (by rw [H.1, H.2])))
 ·refine W.cf ((ap.length : Int) = 0) bg ?_
  exact W.adv 16 (W.tl H)
end
section
variable (p : List T_api_Rat) (l c : Int) (ad e : Bool) (f k : List Int) (ac : List T_api_Rat) (z : Bool) (aa ab : List Int)
noncomputable def fold_Sum_l0_s (j : Nat → D) (jb : Nat → Blk) (vs : Nat → Nat) : Cf := cfAt Tryz.f74 [1, 1, 0, 1, 0] ⟨([j 0, j 1, .pref 2 1 0 0, .pref 3 1 0 0, j 4, j 5, j 6, (.list 3 (p.map E_api_Rat)), .int .i64 l, .int .i64 c] ++ J j 10 8), ([jb 0, jb 1, ⟨1, false, .rows 3 [(.agg [.bool ad, .nilS, .nilS])]⟩, ⟨1, false, .rows 3 [(.agg [.bool e, .ints .u64 f, .ints .u64 k])]⟩] ++ J jb 4 14)⟩
def fold_Sum_l0 : Prop := ∀ j jb vs, W C F 74 0 (fold_Sum_l0_s p l c ad e f k  j jb vs) (Ans C Tryz.f74 (.agg [.bool z, .ints .u64 aa, .ints .u64 ab]))
variable {p l c ad e f k ac z aa ab}
theorem fold_Sum_l0_go (H : (c < l ∧ 0 ≤ c ∧ c < (p.length : Int) ∧ ∃ q t u, p.getD (c).toNat (false, [], []) = (q, t, u) ∧ ∃ ae af ag, rat_Add_R e f k q t u ae af ag ∧ fold_Sum_l0 p l (wi (c + 1)) ad ae af ag z aa ab) ∨ ¬ c < l ∧ z = e ∧ aa = f ∧ ab = k) : fold_Sum_l0 p l c ad e f k z aa ab := by
 intro j jb vs
 refine W.adv 1 (W.adv 6 ?_)
 rcases H with ⟨am, H⟩ | ⟨am, H⟩
 ·refine W.ct (c < l) am ?_
  refine W.adv 6 ?_
  obtain ⟨an, ap, H⟩ := H
  obtain ⟨q, t, u, aq, H⟩ := H
  refine W.opS (O.ixE E_api_Rat 3 .i64 p c (false, [], []) (q, t, u) an ap aq) ?_
  refine W.adv 2 (W.opH (O.stV 5 ((jb 5).ver + 1) 0 0 3 3 [(.agg [.bool false, .nilS, .nilS])] [(.agg [.bool q, .ints .u64 t, .ints .u64 u])] (.agg [.bool false, .nilS, .nilS]) (.agg [.bool q, .ints .u64 t, .ints .u64 u])) ?_)
  refine W.adv 4 (W.opS (O.ldV 5 ((jb 5).ver + 1) 0 0 3 3 false true [(.agg [.bool q, .ints .u64 t, .ints .u64 u])] (.agg [.bool q, .ints .u64 t, .ints .u64 u])) ?_)
  obtain ⟨ae, af, ag, ar, H⟩ := H
  refine W.cl 44 [(.agg [.bool e, .ints .u64 f, .ints .u64 k]), (.agg [.bool q, .ints .u64 t, .ints .u64 u])] (.agg [.bool ae, .ints .u64 af, .ints .u64 ag]) ar ?_
  exact W.adv 9 (W.tl H)
 ·refine W.cf (c < l) am ?_
  exact W.adv 12 (W.fr (Ans.o (.agg [.bool e, .ints .u64 f, .ints .u64 k]) (by rw [H.1, H.2.1, H.2.2])))
theorem fold_Sum_go (H : ∃ ai ak al, rat_Of_R 0 ai ak al ∧ fold_Sum_l0 ac (ac.length : Int) 0 false ai ak al z aa ab) : fold_Sum_R ac z aa ab := by
 refine W.ii Tryz.func74 ?_
 refine W.adv 7 ?_
 obtain ⟨ai, ak, al, au, H⟩ := H
 refine W.cl 38 [.int .i64 0] (.agg [.bool ai, .ints .u64 ak, .ints .u64 al]) au ?_
 refine W.adv 8 (W.opS (O.ln ac E_api_Rat) ?_)
 exact W.adv 4 (W.tl H)
end
noncomputable def fold_Sum_S_l0_s (cb : Nat → Blk) (ver : Nat) (f c : Int) (e : List T_api_Rat) (q k : Bool) (l p : List Int) (t : Nat) (j : Nat → D) (jb : Nat → Blk) (vs : Nat → Nat) : Cf := cfAt Tryz.f74 [1, 1, 0, 1, 0] ⟨([j 0, j 1, .pref 55 1 0 0, .pref 56 1 0 0, j 4, j 5, j 6, .sref 27 ver 3 0 t, .int .i64 f, .int .i64 c] ++ J j 10 8), (J cb 0 27 ++ ([⟨ver, false, .rows 3 (e.map E_api_Rat)⟩] ++ (J cb 28 25 ++ [noBlk, noBlk, ⟨1, false, .rows 3 [(.agg [.bool q, .nilS, .nilS])]⟩, ⟨1, false, .rows 3 [(.agg [.bool k, .ints .u64 l, .ints .u64 p])]⟩, noBlk, noBlk, noBlk, noBlk, noBlk, noBlk, noBlk, noBlk, noBlk, noBlk, noBlk, noBlk, noBlk, noBlk])))⟩
def fold_Sum_S_l0 (cb : Nat → Blk) (ver : Nat) (f c : Int) (e : List T_api_Rat) (q k : Bool) (l p : List Int) (u : Bool) (z aa : List Int) (ys : List T_api_Rat) : Prop := ∀ t, t = e.length → ∀ j jb vs, W C F 74 53 (fold_Sum_S_l0_s cb ver f c e q k l p t j jb vs) (SAnsK C Tryz.f74 53 (.agg [.bool u, .ints .u64 z, .ints .u64 aa]) (fun eb => [cb 0, cb 1, cb 2, cb 3, cb 4, cb 5, cb 6, cb 7, cb 8, cb 9, cb 10, cb 11, cb 12, cb 13, cb 14, cb 15, cb 16, cb 17, cb 18, cb 19, cb 20, cb 21, cb 22, cb 23, cb 24, cb 25, cb 26, ⟨ver, false, .rows 3 (ys.map E_api_Rat)⟩, cb 28, cb 29, cb 30, cb 31, cb 32, cb 33, cb 34, cb 35, cb 36, cb 37, cb 38, cb 39, cb 40, cb 41, cb 42, cb 43, cb 44, cb 45, cb 46, cb 47, cb 48, cb 49, cb 50, cb 51, cb 52, eb 0, eb 1, eb 2, eb 3, eb 4, eb 5, eb 6, eb 7, eb 8, eb 9, eb 10, eb 11, eb 12, eb 13, eb 14, eb 15, eb 16, eb 17]))
noncomputable def fold_Sum_S_l1_s (cb : Nat → Blk) (ver : Nat) (f c : Int) (e : List T_api_Rat) (q k : Bool) (l p : List Int) (t : Nat) (j : Nat → D) (jb : Nat → Blk) (vs : Nat → Nat) : Cf := cfAt Tryz.f74 [1, 1, 0, 1, 0] ⟨([j 0, j 1, .pref 55 1 0 0, .pref 56 1 0 0, j 4, j 5, j 6, .sref 27 ver 3 0 t, .int .i64 f, .int .i64 c] ++ J j 10 8), (J cb 0 27 ++ ([⟨ver, false, .rows 3 (e.map E_api_Rat)⟩] ++ (J cb 28 25 ++ [noBlk, noBlk, ⟨1, false, .rows 3 [(.agg [.bool q, .nilS, .nilS])]⟩, ⟨1, false, .rows 3 [(.agg [.bool k, .ints .u64 l, .ints .u64 p])]⟩, noBlk, jb 58, noBlk, noBlk, noBlk, noBlk, noBlk, noBlk, noBlk, noBlk, noBlk, noBlk, noBlk, noBlk])))⟩
def fold_Sum_S_l1 (cb : Nat → Blk) (ver : Nat) (f c : Int) (e : List T_api_Rat) (q k : Bool) (l p : List Int) (u : Bool) (z aa : List Int) (ys : List T_api_Rat) : Prop := ∀ t, t = e.length → ∀ j jb vs, W C F 74 53 (fold_Sum_S_l1_s cb ver f c e q k l p t j jb vs) (SAnsK C Tryz.f74 53 (.agg [.bool u, .ints .u64 z, .ints .u64 aa]) (fun eb => [cb 0, cb 1, cb 2, cb 3, cb 4, cb 5, cb 6, cb 7, cb 8, cb 9, cb 10, cb 11, cb 12, cb 13, cb 14, cb 15, cb 16, cb 17, cb 18, cb 19, cb 20, cb 21, cb 22, cb 23, cb 24, cb 25, cb 26, ⟨ver, false, .rows 3 (ys.map E_api_Rat)⟩, cb 28, cb 29, cb 30, cb 31, cb 32, cb 33, cb 34, cb 35, cb 36, cb 37, cb 38, cb 39, cb 40, cb 41, cb 42, cb 43, cb 44, cb 45, cb 46, cb 47, cb 48, cb 49, cb 50, cb 51, cb 52, eb 0, eb 1, eb 2, eb 3, eb 4, eb 5, eb 6, eb 7, eb 8, eb 9, eb 10, eb 11, eb 12, eb 13, eb 14, eb 15, eb 16, eb 17]))
theorem fold_Sum_S_l0_go {cb : Nat → Blk} {ver : Nat} {f c : Int} {e : List T_api_Rat} {q k : Bool} {l p : List Int} {u : Bool} {z aa : List Int} {ys : List T_api_Rat} (H : (c < f ∧ 0 ≤ c ∧ c < (e.length : Int) ∧ ∃ ae af ag, e.getD (c).toNat (false, [], []) = (ae, af, ag) ∧ ∃ ai ak al, rat_Add_R k l p ae af ag ai ak al ∧ fold_Sum_S_l1 cb ver f (wi (c + 1)) e q ai ak al u z aa ys) ∨ ¬ c < f ∧ u = k ∧ z = l ∧ aa = p ∧ ys = e) : fold_Sum_S_l0 cb ver f c e q k l p u z aa ys := by
 intro t am j jb vs
 refine W.adv 1 (W.adv 6 ?_)
 rcases H with ⟨aw, H⟩ | ⟨aw, H⟩
 ·refine W.ct (c < f) aw ?_
  refine W.adv 6 ?_
  obtain ⟨az, a0, H⟩ := H
  refine W.opS (O.ixR .i64 27 ver 3 t c az (by rw [am]; exact a0)) ?_
  obtain ⟨ae, af, ag, a1, H⟩ := H
  refine W.opS (OpIs.ldE (enc := E_api_Rat) (b := 27) (v := ver) (i := (c).toNat) (off := 0) (w := ver) (n := 3) (s := 3) (fz := false) (a := true) (L := e) (d0 := (false, [], [])) (x := (ae, af, ag)) (r := (.agg [.bool ae, .ints .u64 af, .ints .u64 ag])) (by kernel_rfl) rfl (by omega) a1 (by kernel_rfl)) ?_
  refine W.adv 7 ?_
  obtain ⟨ai, ak, al, a2, H⟩ := H
  refine W.cl 44 [(.agg [.bool k, .ints .u64 l, .ints .u64 p]), (.agg [.bool ae, .ints .u64 af, .ints .u64 ag])] (.agg [.bool ai, .ints .u64 ak, .ints .u64 al]) a2 ?_
  exact W.adv 9 (W.tl (H _ am))
 ·refine W.cf (c < f) aw ?_
  exact W.adv 12 (W.fr (SAnsK.of (b := 55) (v := 0) (fz := false) (y := .rows 3 [(.agg [.bool k, .ints .u64 l, .ints .u64 p])]) (d0 := (.agg [.bool k, .ints .u64 l, .ints .u64 p])) (h0 := (fun eb => [cb 0, cb 1, cb 2, cb 3, cb 4, cb 5, cb 6, cb 7, cb 8, cb 9, cb 10, cb 11, cb 12, cb 13, cb 14, cb 15, cb 16, cb 17, cb 18, cb 19, cb 20, cb 21, cb 22, cb 23, cb 24, cb 25, cb 26, ⟨ver, false, .rows 3 (e.map E_api_Rat)⟩, cb 28, cb 29, cb 30, cb 31, cb 32, cb 33, cb 34, cb 35, cb 36, cb 37, cb 38, cb 39, cb 40, cb 41, cb 42, cb 43, cb 44, cb 45, cb 46, cb 47, cb 48, cb 49, cb 50, cb 51, cb 52, eb 0, eb 1, eb 2, eb 3, eb 4, eb 5, eb 6, eb 7, eb 8, eb 9, eb 10, eb 11, eb 12, eb 13, eb 14, eb 15, eb 16, eb 17])) (by kernel_rfl) (by rw [H.1, H.2.1, H.2.2.1]) (by kernel_rfl) (by kernel_rfl) (by kernel_rfl) (by rw [H.2.2.2])))
theorem fold_Sum_S_l1_go {cb : Nat → Blk} {ver : Nat} {f c : Int} {e : List T_api_Rat} {q k : Bool} {l p : List Int} {u : Bool} {z aa : List Int} {ys : List T_api_Rat} (H : (c < f ∧ 0 ≤ c ∧ c < (e.length : Int) ∧ ∃ ab ac ad, e.getD (c).toNat (false, [], []) = (ab, ac, ad) ∧ ∃ an ap aq, rat_Add_R k l p ab ac ad an ap aq ∧ fold_Sum_S_l1 cb ver f (wi (c + 1)) e q an ap aq u z aa ys) ∨ ¬ c < f ∧ u = k ∧ z = l ∧ aa = p ∧ ys = e) : fold_Sum_S_l1 cb ver f c e q k l p u z aa ys := by
 intro t am j jb vs
 refine W.adv 1 (W.adv 6 ?_)
 rcases H with ⟨ay, H⟩ | ⟨ay, H⟩
 ·refine W.ct (c < f) ay ?_
  refine W.adv 6 ?_
  obtain ⟨a3, a4, H⟩ := H
  refine W.opS (O.ixR .i64 27 ver 3 t c a3 (by rw [am]; exact a4)) ?_
  obtain ⟨ab, ac, ad, a5, H⟩ := H
  refine W.opS (OpIs.ldE (enc := E_api_Rat) (b := 27) (v := ver) (i := (c).toNat) (off := 0) (w := ver) (n := 3) (s := 3) (fz := false) (a := true) (L := e) (d0 := (false, [], [])) (x := (ab, ac, ad)) (r := (.agg [.bool ab, .ints .u64 ac, .ints .u64 ad])) (by kernel_rfl) rfl (by omega) a5 (by kernel_rfl)) ?_
  refine W.adv 1 (W.opH (O.stV 58 ((jb 58).ver + 1) 0 0 3 3 [(.agg [.bool false, .nilS, .nilS])] [(.agg [.bool ab, .ints .u64 ac, .ints .u64 ad])] (.agg [.bool false, .nilS, .nilS]) (.agg [.bool ab, .ints .u64 ac, .ints .u64 ad])) ?_)
  refine W.adv 4 (W.opS (O.ldV 58 ((jb 58).ver + 1) 0 0 3 3 false true [(.agg [.bool ab, .ints .u64 ac, .ints .u64 ad])] (.agg [.bool ab, .ints .u64 ac, .ints .u64 ad])) ?_)
  obtain ⟨an, ap, aq, a6, H⟩ := H
  refine W.cl 44 [(.agg [.bool k, .ints .u64 l, .ints .u64 p]), (.agg [.bool ab, .ints .u64 ac, .ints .u64 ad])] (.agg [.bool an, .ints .u64 ap, .ints .u64 aq]) a6 ?_
  exact W.adv 9 (W.tl (H _ am))
 ·refine W.cf (c < f) ay ?_
  exact W.adv 12 (W.fr (SAnsK.of (b := 55) (v := 0) (fz := false) (y := .rows 3 [(.agg [.bool k, .ints .u64 l, .ints .u64 p])]) (d0 := (.agg [.bool k, .ints .u64 l, .ints .u64 p])) (h0 := (fun eb => [cb 0, cb 1, cb 2, cb 3, cb 4, cb 5, cb 6, cb 7, cb 8, cb 9, cb 10, cb 11, cb 12, cb 13, cb 14, cb 15, cb 16, cb 17, cb 18, cb 19, cb 20, cb 21, cb 22, cb 23, cb 24, cb 25, cb 26, ⟨ver, false, .rows 3 (e.map E_api_Rat)⟩, cb 28, cb 29, cb 30, cb 31, cb 32, cb 33, cb 34, cb 35, cb 36, cb 37, cb 38, cb 39, cb 40, cb 41, cb 42, cb 43, cb 44, cb 45, cb 46, cb 47, cb 48, cb 49, cb 50, cb 51, cb 52, eb 0, eb 1, eb 2, eb 3, eb 4, eb 5, eb 6, eb 7, eb 8, eb 9, eb 10, eb 11, eb 12, eb 13, eb 14, eb 15, eb 16, eb 17])) (by kernel_rfl) (by rw [H.1, H.2.1, H.2.2.1]) (by kernel_rfl) (by kernel_rfl) (by kernel_rfl) (by rw [H.2.2.2])))
theorem fold_Sum_S_go {xs : List T_api_Rat} {u : Bool} {z aa : List Int} {ys : List T_api_Rat} (H : ∀ (cb : Nat → Blk) (ver : Nat), (∃ ar : Bool, (∃ au : List Int, (∃ av : List Int, (rat_Of_R 0 ar au av ∧ (fold_Sum_S_l0 cb ver (xs.length : Int) 0 xs false ar au av u z aa ys)))))) : fold_Sum_S_R xs u z aa ys := by
 intro cb ver n ln
 replace H := H cb ver
 refine W.scK (h' := (fun eb => [cb 0, cb 1, cb 2, cb 3, cb 4, cb 5, cb 6, cb 7, cb 8, cb 9, cb 10, cb 11, cb 12, cb 13, cb 14, cb 15, cb 16, cb 17, cb 18, cb 19, cb 20, cb 21, cb 22, cb 23, cb 24, cb 25, cb 26, ⟨ver, false, .rows 3 (ys.map E_api_Rat)⟩, cb 28, cb 29, cb 30, cb 31, cb 32, cb 33, cb 34, cb 35, cb 36, cb 37, cb 38, cb 39, cb 40, cb 41, cb 42, cb 43, cb 44, cb 45, cb 46, cb 47, cb 48, cb 49, cb 50, cb 51, cb 52, eb 0, eb 1, eb 2, eb 3, eb 4, eb 5, eb 6, eb 7, eb 8, eb 9, eb 10, eb 11, eb 12, eb 13, eb 14, eb 15, eb 16, eb 17])) (n := 53) Tryz.func74 (by kernel_rfl) (by kernel_rfl) (by kernel_rfl) (by kernel_rfl) ?_
 refine W.adv 7 ?_
 obtain ⟨ar, au, av, a7, H⟩ := H
 refine W.cl 38 [.int .i64 0] (.agg [.bool ar, .ints .u64 au, .ints .u64 av]) a7 ?_
 refine W.adv 8 (W.opS (OpIs.ln (n := n) (m := xs.length) (by kernel_rfl) ln) ?_)
 exact W.adv 4 (W.tl (H _ ln))
end Go.Proofs.YtjcdkemnflmfiaaGreatA
namespace Go.Proofs.YtjcdkemnflmfiaaGreatA
open Go Go.Proofs
section
variable (f : List T_api_Rat) (e c : Int) (k : List T_fail_Case) (ae : Nat) (ac : List T_api_Rat) (l : List T_fail_Case) (p : Int)
noncomputable def fail_All_l0_s (j : Nat → D) (jb : Nat → Blk) (vs : Nat → Nat) : Cf := cfAt Tryz.f40 [1, 1, 1, 0, 1, 0] ⟨([(.list 3 (f.map E_api_Rat))] ++ (J j 1 4 ++ ([.nilS] ++ (J j 6 9 ++ ([.int .i64 e, .int .i64 c] ++ J j 17 18))))), (J jb 0 35)⟩
def fail_All_l0 : Prop := ∀ j jb vs, W C F 40 0 (fail_All_l0_s f e c  j jb vs) (Ans C Tryz.f40 (.tuple [(.list 4 (l.map E_fail_Case)), .int .i64 p]))
noncomputable def fail_All_l1_s (j : Nat → D) (jb : Nat → Blk) (vs : Nat → Nat) : Cf := cfAt Tryz.f40 [1, 1, 1, 0, 1, 0] ⟨([(.list 3 (f.map E_api_Rat))] ++ (J j 1 4 ++ ([(.sref 32 ((vs 32) + 1) 4 0 ae)] ++ (J j 6 9 ++ ([.int .i64 e, .int .i64 c] ++ J j 17 18))))), (J jb 0 32 ++ [⟨((vs 32) + 1), false, .rows 4 (k.map E_fail_Case)⟩, jb 33, jb 34])⟩
def fail_All_l1 : Prop := ∀ ae, ae = k.length → ∀ j jb vs, W C F 40 0 (fail_All_l1_s f e c k ae j jb vs) (Ans C Tryz.f40 (.tuple [(.list 4 (l.map E_fail_Case)), .int .i64 p]))
variable {f e c k ae ac l p}
theorem fail_All_l0_go (H : (c < e ∧ ∃ q t u, fail_chance_R f (wu (c)) q t u ∧ ∃ af, rat_Sign_R q t u af ∧ (af = 0 ∧ fail_All_l0 f e (wi (c + 1)) l p ∨ ¬ af = 0 ∧ (1 + 192) * (64 + 1) ≤ 70368744177664 ∧ ∃ ai, ai = [((wu (c)), q, t, u)] ∧ fail_All_l1 f e (wi (c + 1)) ai l p)) ∨ ¬ c < e ∧ l = ([] : List T_fail_Case) ∧ p = 0) : fail_All_l0 f e c l p := by
 intro j jb vs
 refine W.adv 1 (W.adv 6 ?_)
 rcases H with ⟨al, H⟩ | ⟨al, H⟩
 ·refine W.ct (c < e) al ?_
  refine W.adv 15 ?_
  obtain ⟨q, t, u, aw, H⟩ := H
  refine W.cl 108 [(.list 3 (f.map E_api_Rat)), (.int .u64 (wu (c)))] (.agg [.bool q, .ints .u64 t, .ints .u64 u]) aw ?_
  refine W.adv 1 (W.opH (O.stV 7 ((jb 7).ver + 1) 0 0 3 3 [(.agg [.bool false, .nilS, .nilS])] [(.agg [.bool q, .ints .u64 t, .ints .u64 u])] (.agg [.bool false, .nilS, .nilS]) (.agg [.bool q, .ints .u64 t, .ints .u64 u])) ?_)
  refine W.adv 4 (W.opS (O.ldV 7 ((jb 7).ver + 1) 0 0 3 3 false true [(.agg [.bool q, .ints .u64 t, .ints .u64 u])] (.agg [.bool q, .ints .u64 t, .ints .u64 u])) ?_)
  obtain ⟨af, ay, H⟩ := H
  refine W.cl 25 [(.agg [.bool q, .ints .u64 t, .ints .u64 u])] (.int .i64 af) ay ?_
  refine W.adv 3 ?_
  rcases H with ⟨am, H⟩ | ⟨am, H⟩
  ·refine W.cb false (!(decide (af = 0))) (congrArg (fun b => !b) (decide_eq_true am)) ?_
   exact W.adv 8 (W.tl H)
  ·refine W.cb true (!(decide (af = 0))) (congrArg (fun b => !b) (decide_eq_false am)) ?_
   refine W.adv 4 (W.opS (O.ldV 7 ((jb 7).ver + 1) 0 0 3 3 false true [(.agg [.bool q, .ints .u64 t, .ints .u64 u])] (.agg [.bool q, .ints .u64 t, .ints .u64 u])) ?_)
   refine W.adv 2 ?_
   obtain ⟨az, H⟩ := H
   obtain ⟨ai, au, H⟩ := H
   have a1 : 1 = ai.length := by rw [au] <;> rfl
   refine W.opH (O.apENil E_fail_Case (.lit (.list 4 [(.agg [(.int .u64 (wu (c))), .bool q, .ints .u64 t, .ints .u64 u])])) 64 32 ((jb 32).ver) 4 [((wu (c)), q, t, u)] au az) ?_
   exact W.adv 9 (W.tl (H _ a1))
 ·refine W.cf (c < e) al ?_
  exact W.adv 13 (W.fr (Ans.q (.tuple [(.list 4 (([] : List T_fail_Case).map E_fail_Case)), .int .i64 0]) (by rw [H.1, H.2])))
theorem fail_All_l1_go (H : (c < e ∧ ∃ z aa ab, fail_chance_R f (wu (c)) z aa ab ∧ ∃ ag, rat_Sign_R z aa ab ag ∧ (ag = 0 ∧ fail_All_l1 f e (wi (c + 1)) k l p ∨ ¬ ag = 0 ∧ (k.length + 1 + 192) * (64 + 1) ≤ 70368744177664 ∧ ∃ ak, ak = k ++ [((wu (c)), z, aa, ab)] ∧ fail_All_l1 f e (wi (c + 1)) ak l p)) ∨ ¬ c < e ∧ l = k ∧ p = 0) : fail_All_l1 f e c k l p := by
 intro ae an j jb vs
 refine W.adv 1 (W.adv 6 ?_)
 rcases H with ⟨ap, H⟩ | ⟨ap, H⟩
 ·refine W.ct (c < e) ap ?_
  refine W.adv 15 ?_
  obtain ⟨z, aa, ab, a2, H⟩ := H
  refine W.cl 108 [(.list 3 (f.map E_api_Rat)), (.int .u64 (wu (c)))] (.agg [.bool z, .ints .u64 aa, .ints .u64 ab]) a2 ?_
  refine W.adv 1 (W.opH (O.stV 7 ((jb 7).ver + 1) 0 0 3 3 [(.agg [.bool false, .nilS, .nilS])] [(.agg [.bool z, .ints .u64 aa, .ints .u64 ab])] (.agg [.bool false, .nilS, .nilS]) (.agg [.bool z, .ints .u64 aa, .ints .u64 ab])) ?_)
  refine W.adv 4 (W.opS (O.ldV 7 ((jb 7).ver + 1) 0 0 3 3 false true [(.agg [.bool z, .ints .u64 aa, .ints .u64 ab])] (.agg [.bool z, .ints .u64 aa, .ints .u64 ab])) ?_)
  obtain ⟨ag, a3, H⟩ := H
  refine W.cl 25 [(.agg [.bool z, .ints .u64 aa, .ints .u64 ab])] (.int .i64 ag) a3 ?_
  refine W.adv 3 ?_
  rcases H with ⟨aq, H⟩ | ⟨aq, H⟩
  ·refine W.cb false (!(decide (ag = 0))) (congrArg (fun b => !b) (decide_eq_true aq)) ?_
   exact W.adv 8 (W.tl (H _ an))
  ·refine W.cb true (!(decide (ag = 0))) (congrArg (fun b => !b) (decide_eq_false aq)) ?_
   refine W.adv 4 (W.opS (O.ldV 7 ((jb 7).ver + 1) 0 0 3 3 false true [(.agg [.bool z, .ints .u64 aa, .ints .u64 ab])] (.agg [.bool z, .ints .u64 aa, .ints .u64 ab])) ?_)
   refine W.adv 2 ?_
   obtain ⟨a4, H⟩ := H
   obtain ⟨ak, av, H⟩ := H
   have a5 : (k.length + 1) = ak.length := by rw [av, List.length_append] <;> rfl
   refine W.opK (O.apERow E_fail_Case (.lit (.list 4 [(.agg [(.int .u64 (wu (c))), .bool z, .ints .u64 aa, .ints .u64 ab])])) 64 32 ((vs 32) + 1) 32 ((vs 32) + 1) ae 4 k [((wu (c)), z, aa, ab)] av an a4) ?_
   exact W.adv 9 (W.tl (H _ a5))
 ·refine W.cf (c < e) ap ?_
  exact W.adv 13 (W.fr (Ans.of (d := (.tuple [(.sref 32 ((vs 32) + 1) 4 0 ae), .int .i64 0])) (d' := (.tuple [(.list 4 (k.map E_fail_Case)), .int .i64 0])) (e' := (.tuple [(.list 4 (k.map E_fail_Case)), .int .i64 0])) (by kernel_rfl) ((congrArg (fun h => reify h DEPTH (.tuple [(.sref 32 ((vs 32) + 1) 4 0 ae), .int .i64 0])) (tidy_ver (b := 32) (v := (vs 32)) (fz := false) (y := .rows 4 (k.map E_fail_Case)) (by kernel_rfl))).trans (rf_tup (rf_cons (rf_fullE (enc := E_fail_Case) E_fail_Case_t (b := 32) (v := ((vs 32) + 1)) (w := ((vs 32) + 1)) (fz := false) (xs := k) (by kernel_rfl) rfl an) (rf_cons (by kernel_rfl) rf_nil)))) (by kernel_rfl) (by rw [H.1, H.2])))
theorem fail_All_go (H : ∃ ad, fail_right_R ac ad ∧ (ad = 0 ∧ 0 ≤ (ac.length : Int) ∧ fail_All_l0 ac (wi (1 * 2 ^ (min (ac.length : Int).toNat 64))) 0 l p ∨ ¬ ad = 0 ∧ l = ([] : List T_fail_Case) ∧ p = ad)) : fail_All_R ac l p := by
 refine W.ii Tryz.func40 ?_
 refine W.adv 10 ?_
 obtain ⟨ad, a6, H⟩ := H
 refine W.cl 107 [(.list 3 (ac.map E_api_Rat))] (.int .i64 ad) a6 ?_
 refine W.adv 9 ?_
 rcases H with ⟨ar, H⟩ | ⟨ar, H⟩
 ·refine W.cb false (!(decide (ad = 0))) (congrArg (fun b => !b) (decide_eq_true ar)) ?_
  refine W.adv 11 (W.opS (O.ln ac E_api_Rat) ?_)
  obtain ⟨a7, H⟩ := H
  refine W.opS (OpIs.bn (op := .shl) (x := (.int .i64 1)) (y := (.int .i64 (ac.length : Int))) (by kernel_rfl) (shlD a7)) ?_
  exact W.adv 4 (W.tl (P := fail_All_l0_s ac (wi (1 * 2 ^ (min (ac.length : Int).toNat 64))) 0) H)
 ·refine W.cb true (!(decide (ad = 0))) (congrArg (fun b => !b) (decide_eq_false ar)) ?_
  exact W.adv 9 (W.fr (Ans.q (.tuple [(.list 4 (([] : List T_fail_Case).map E_fail_Case)), .int .i64 ad]) (by rw [H.1, H.2])))
end
section
variable (b : List T_string) (c : ByteArray) (e a : Int) (f : List T_string) (g : ByteArray) (z : Int)
noncomputable def slices_Index___string_string__l0_s (j : Nat → D) (jb : Nat → Blk) (vs : Nat → Nat) : Cf := cfAt Tryz.f43 [1, 0, 1, 0] ⟨([(.list 1 (b.map E_string)), .str c] ++ (J j 2 5 ++ ([.int .i64 e, .int .i64 a] ++ J j 9 10))), (J jb 0 19)⟩
def slices_Index___string_string__l0 : Prop := ∀ j jb vs, W C F 43 0 (slices_Index___string_string__l0_s b c e a  j jb vs) (Ans C Tryz.f43 (.int .i64 z))
variable {b c e a f g z}
theorem slices_Index___string_string__l0_go (H : a < e ∧ 0 ≤ a ∧ a < (b.length : Int) ∧ (c = (b.getD (a).toNat ByteArray.empty) ∧ (z = a) ∨ ¬ c = (b.getD (a).toNat ByteArray.empty) ∧ slices_Index___string_string__l0 b c e (wi (a + 1)) z) ∨ ¬ a < e ∧ (z = (-1))) : slices_Index___string_string__l0 b c e a z := by
 intro j jb vs
 refine W.adv 1 (W.adv 6 ?_)
 rcases H with ⟨k, H⟩ | ⟨k, H⟩
 ·refine W.ct (a < e) k ?_
  refine W.adv 15 ?_
  obtain ⟨p, q, H⟩ := H
  refine W.opS (O.ixE E_string 1 .i64 b a ByteArray.empty (b.getD (a).toNat ByteArray.empty) p q rfl) ?_
  refine W.adv 4 ?_
  rcases H with ⟨l, H⟩ | ⟨l, H⟩
  ·refine W.ct (c = (b.getD (a).toNat ByteArray.empty)) l ?_
   exact W.adv 12 (W.fr (Ans.o (.int .i64 a) (by rw [H])))
  ·refine W.cf (c = (b.getD (a).toNat ByteArray.empty)) l ?_
   exact W.adv 8 (W.tl H)
 ·refine W.cf (a < e) k ?_
  exact W.adv 11 (W.fr (Ans.o (.int .i64 (-1)) (by rw [H])))
theorem slices_Index___string_string__go (H : slices_Index___string_string__l0 f g (f.length : Int) 0 z) : slices_Index___string_string__R f g z := by
 refine W.ii Tryz.func43 ?_
 refine W.adv 9 (W.opS (O.ln f E_string) ?_)
 exact W.adv 4 (W.tl H)
end
theorem fail_right_go {a : List T_api_Rat} {z : Int} (H : 8 < (a.length : Int) ∧ (z = 2) ∨ ¬ 8 < (a.length : Int) ∧ ∃ c, slices_ContainsFunc___api_Rat_api_Rat__v0_R a c ∧ (c = true ∧ (z = 2) ∨ ¬ c = true ∧ (z = 0))) : fail_right_R a z := by
 refine W.ii Tryz.func107 ?_
 refine W.adv 9 (W.opS (O.ln a E_api_Rat) ?_)
 refine W.adv 2 ?_
 rcases H with ⟨e, H⟩ | ⟨e, H⟩
 ·refine W.gt' (8 < (a.length : Int)) e ?_
  refine W.gt' (8 < (a.length : Int)) e ?_
  refine W.opS (O.pk (decide (8 < (a.length : Int))) true (.bool true) (.tuple []) (decide_eq_true e)) ?_
  exact W.adv 10 (W.fr (Ans.o (.int .i64 2) (by rw [H])))
 ·refine W.gf' (8 < (a.length : Int)) e ?_
  refine W.adv 1 (W.gf' (8 < (a.length : Int)) e ?_)
  obtain ⟨c, i, H⟩ := H
  refine W.cl 156 [(.list 3 (a.map E_api_Rat)), .fn 157 [] []] (.bool c) i ?_
  refine W.opS (O.pk (decide (8 < (a.length : Int))) false (.bool true) (.bool c) (decide_eq_false e)) ?_
  refine W.adv 2 ?_
  rcases H with ⟨f, H⟩ | ⟨f, H⟩
  ·refine W.cb true c f ?_
   exact W.adv 7 (W.fr (Ans.o (.int .i64 2) (by rw [H])))
  ·refine W.cb false c (bfalse f) ?_
   exact W.adv 8 (W.fr (Ans.o (.int .i64 0) (by rw [H])))
section
variable (t : Int) (z : List T_api_Rat) (u c : Int) (ad l : Bool) (p q : List Int) (ai : List T_api_Rat) (aw : Int) (ae : Bool) (af ag : List Int)
noncomputable def fail_chance_l0_s (j : Nat → D) (jb : Nat → Blk) (vs : Nat → Nat) : Cf := cfAt Tryz.f108 [1, 1, 0, 1, 0] ⟨([j 0, .int .u64 t, j 2, j 3, .pref 4 1 0 0, .pref 5 1 0 0, j 6, j 7, j 8, (.list 3 (z.map E_api_Rat)), .int .i64 u, .int .i64 c] ++ J j 12 16), (J jb 0 4 ++ ([⟨1, false, .rows 3 [(.agg [.bool ad, .nilS, .nilS])]⟩, ⟨1, false, .rows 3 [(.agg [.bool l, .ints .u64 p, .ints .u64 q])]⟩] ++ J jb 6 22))⟩
def fail_chance_l0 : Prop := ∀ j jb vs, W C F 108 0 (fail_chance_l0_s t z u c ad l p q  j jb vs) (Ans C Tryz.f108 (.agg [.bool ae, .ints .u64 af, .ints .u64 ag]))
variable {t z u c ad l p q ai aw ae af ag}
theorem fail_chance_l0_go (H : (c < u ∧ 0 ≤ c ∧ c < (z.length : Int) ∧ ∃ e f k, z.getD (c).toNat (false, [], []) = (e, f, k) ∧ (((bits .and .u64 (t / 2 ^ (min (c).toNat 64)) 1) = 1 ∧ ∃ aa ab ac, fold_Not_R e f k aa ab ac ∧ ∃ ak al am, rat_Mul_R l p q aa ab ac ak al am ∧ fail_chance_l0 t z u (wi (c + 1)) ad ak al am ae af ag) ∨ ¬ (bits .and .u64 (t / 2 ^ (min (c).toNat 64)) 1) = 1 ∧ ∃ an ap aq, rat_Mul_R l p q e f k an ap aq ∧ fail_chance_l0 t z u (wi (c + 1)) ad an ap aq ae af ag)) ∨ ¬ c < u ∧ ae = l ∧ af = p ∧ ag = q) : fail_chance_l0 t z u c ad l p q ae af ag := by
 intro j jb vs
 refine W.adv 1 (W.adv 6 ?_)
 rcases H with ⟨ay, H⟩ | ⟨ay, H⟩
 ·refine W.ct (c < u) ay ?_
  refine W.adv 7 ?_
  obtain ⟨a2, a3, H⟩ := H
  obtain ⟨e, f, k, a4, H⟩ := H
  refine W.opS (O.ixE E_api_Rat 3 .i64 z c (false, [], []) (e, f, k) a2 a3 a4) ?_
  refine W.adv 3 (W.opH (O.stV 7 ((jb 7).ver + 1) 0 0 3 3 [(.agg [.bool false, .nilS, .nilS])] [(.agg [.bool e, .ints .u64 f, .ints .u64 k])] (.agg [.bool false, .nilS, .nilS]) (.agg [.bool e, .ints .u64 f, .ints .u64 k])) ?_)
  refine W.adv 7 (W.opS (OpIs.bn (op := .shr) (x := (.int .u64 t)) (y := (.int .i64 c)) (by kernel_rfl) (shrD a2)) ?_)
  refine W.adv 4 ?_
  rcases H with ⟨az, H⟩ | ⟨az, H⟩
  ·refine W.ct ((bits .and .u64 (t / 2 ^ (min (c).toNat 64)) 1) = 1) az ?_
   refine W.adv 1 (W.opS (O.ldV 7 ((jb 7).ver + 1) 0 0 3 3 false true [(.agg [.bool e, .ints .u64 f, .ints .u64 k])] (.agg [.bool e, .ints .u64 f, .ints .u64 k])) ?_)
   obtain ⟨aa, ab, ac, a5, H⟩ := H
   refine W.cl 37 [(.agg [.bool e, .ints .u64 f, .ints .u64 k])] (.agg [.bool aa, .ints .u64 ab, .ints .u64 ac]) a5 ?_
   refine W.opH (O.stV 7 ((jb 7).ver + 1) 0 0 3 3 [(.agg [.bool e, .ints .u64 f, .ints .u64 k])] [(.agg [.bool aa, .ints .u64 ab, .ints .u64 ac])] (.agg [.bool e, .ints .u64 f, .ints .u64 k]) (.agg [.bool aa, .ints .u64 ab, .ints .u64 ac])) ?_
   refine W.adv 4 (W.opS (O.ldV 7 ((jb 7).ver + 1) 0 0 3 3 false true [(.agg [.bool aa, .ints .u64 ab, .ints .u64 ac])] (.agg [.bool aa, .ints .u64 ab, .ints .u64 ac])) ?_)
   obtain ⟨ak, al, am, a6, H⟩ := H
   refine W.cl 45 [(.agg [.bool l, .ints .u64 p, .ints .u64 q]), (.agg [.bool aa, .ints .u64 ab, .ints .u64 ac])] (.agg [.bool ak, .ints .u64 al, .ints .u64 am]) a6 ?_
   exact W.adv 9 (W.tl H)
  ·refine W.cf ((bits .and .u64 (t / 2 ^ (min (c).toNat 64)) 1) = 1) az ?_
   refine W.adv 4 (W.opS (O.ldV 7 ((jb 7).ver + 1) 0 0 3 3 false true [(.agg [.bool e, .ints .u64 f, .ints .u64 k])] (.agg [.bool e, .ints .u64 f, .ints .u64 k])) ?_)
   obtain ⟨an, ap, aq, a7, H⟩ := H
   refine W.cl 45 [(.agg [.bool l, .ints .u64 p, .ints .u64 q]), (.agg [.bool e, .ints .u64 f, .ints .u64 k])] (.agg [.bool an, .ints .u64 ap, .ints .u64 aq]) a7 ?_
   exact W.adv 9 (W.tl H)
 ·refine W.cf (c < u) ay ?_
  exact W.adv 12 (W.fr (Ans.o (.agg [.bool l, .ints .u64 p, .ints .u64 q]) (by rw [H.1, H.2.1, H.2.2])))
theorem fail_chance_go (H : ∃ ar au av, rat_Of_R 1 ar au av ∧ fail_chance_l0 aw ai (ai.length : Int) 0 false ar au av ae af ag) : fail_chance_R ai aw ae af ag := by
 refine W.ii Tryz.func108 ?_
 refine W.adv 7 ?_
 obtain ⟨ar, au, av, a8, H⟩ := H
 refine W.cl 38 [.int .i64 1] (.agg [.bool ar, .ints .u64 au, .ints .u64 av]) a8 ?_
 refine W.adv 8 (W.opS (O.ln ai E_api_Rat) ?_)
 exact W.adv 4 (W.tl H)
end
theorem fail_right_1_go {e : Bool} {f i : List Int} {z : Bool} (H : ∃ a, rat_Sign_R e f i a ∧ (a < 0 ∧ (z = true) ∨ ¬ a < 0 ∧ ∃ l m n, rat_Of_R 1 l m n ∧ ∃ k, rat_Cmp_R e f i l m n k ∧ (z = (decide (0 < k))))) : fail_right_1_R e f i z := by
 refine W.ii Tryz.func157 ?_
 refine W.adv 9 ?_
 obtain ⟨a, p, H⟩ := H
 refine W.cl 25 [(.agg [.bool e, .ints .u64 f, .ints .u64 i])] (.int .i64 a) p ?_
 refine W.adv 2 ?_
 rcases H with ⟨c, H⟩ | ⟨c, H⟩
 ·refine W.gt' (a < 0) c ?_
  refine W.gt' (a < 0) c ?_
  refine W.gt' (a < 0) c ?_
  refine W.gt' (a < 0) c ?_
  refine W.opS (O.pk (decide (a < 0)) true (.bool true) (.tuple []) (decide_eq_true c)) ?_
  exact W.adv 4 (W.fr (Ans.o (.bool true) (by rw [H])))
 ·refine W.gf' (a < 0) c ?_
  refine W.adv 1 (W.gf' (a < 0) c ?_)
  obtain ⟨l, m, n, q, H⟩ := H
  refine W.cl 38 [.int .i64 1] (.agg [.bool l, .ints .u64 m, .ints .u64 n]) q ?_
  refine W.gf' (a < 0) c ?_
  obtain ⟨k, s, H⟩ := H
  refine W.cl 72 [(.agg [.bool e, .ints .u64 f, .ints .u64 i]), (.agg [.bool l, .ints .u64 m, .ints .u64 n])] (.int .i64 k) s ?_
  refine W.gf' (a < 0) c ?_
  refine W.adv 1 (W.opS (O.pk (decide (a < 0)) false (.bool true) (.bool (decide (0 < k))) (decide_eq_false c)) ?_)
  exact W.adv 4 (W.fr (Ans.o (.bool (decide (0 < k))) (by rw [H])))
theorem slices_ContainsFunc_____api_Hop___api_Hop__v0_go {b : List T71} {z : Bool} (H : ∃ a, slices_IndexFunc_____api_Hop___api_Hop__v1_R b a ∧ (z = (decide (0 ≤ a)))) : slices_ContainsFunc_____api_Hop___api_Hop__v0_R b z := by
 refine W.ii Tryz.func109 ?_
 refine W.adv 9 ?_
 obtain ⟨a, c, H⟩ := H
 refine W.cl 60 [(.list 1 (b.map E71)), .fn 110 [] []] (.int .i64 a) c ?_
 exact W.adv 5 (W.fr (Ans.o (.bool (decide (0 ≤ a))) (by rw [H])))
section
variable (c : List T_api_Link) (e : ByteArray) (b a : Int) (f : List T_api_Link) (v : ByteArray) (z : Int)
noncomputable def slices_IndexFunc___api_Link_api_Link__v0_l0_s (j : Nat → D) (jb : Nat → Blk) (vs : Nat → Nat) : Cf := cfAt Tryz.f152 [1, 0, 1, 0] ⟨([(.list 6 (c.map E_api_Link)), (.fn 153 [] [(.ptr [.str e])])] ++ (J j 2 5 ++ ([.int .i64 b, .int .i64 a] ++ J j 9 10))), (J jb 0 19)⟩
def slices_IndexFunc___api_Link_api_Link__v0_l0 : Prop := ∀ j jb vs, W C F 152 0 (slices_IndexFunc___api_Link_api_Link__v0_l0_s c e b a  j jb vs) (Ans C Tryz.f152 (.int .i64 z))
variable {c e b a f v z}
theorem slices_IndexFunc___api_Link_api_Link__v0_l0_go (H : (a < b ∧ 0 ≤ a ∧ a < (c.length : Int) ∧ ∃ l p q s t u, c.getD (a).toNat (ByteArray.empty, ByteArray.empty, ByteArray.empty, false, [], []) = (l, p, q, s, t, u) ∧ ∃ k, formed_Link_1_v0_R l p q s t u e k ∧ (k = true ∧ (z = a) ∨ ¬ k = true ∧ slices_IndexFunc___api_Link_api_Link__v0_l0 c e b (wi (a + 1)) z)) ∨ ¬ a < b ∧ (z = (-1))) : slices_IndexFunc___api_Link_api_Link__v0_l0 c e b a z := by
 intro j jb vs
 refine W.adv 1 (W.adv 6 ?_)
 rcases H with ⟨y, H⟩ | ⟨y, H⟩
 ·refine W.ct (a < b) y ?_
  refine W.adv 15 ?_
  obtain ⟨ab, ac, H⟩ := H
  obtain ⟨l, p, q, s, t, u, ad, H⟩ := H
  refine W.opS (O.ixE E_api_Link 6 .i64 c a (ByteArray.empty, ByteArray.empty, ByteArray.empty, false, [], []) (l, p, q, s, t, u) ab ac ad) ?_
  refine W.adv 1 ?_
  obtain ⟨k, ae, H⟩ := H
  refine W.cl 153 [(.agg [.str l, .str p, .str q, .bool s, .ints .u64 t, .ints .u64 u]), (.ptr [.str e])] (.bool k) ae ?_
  refine W.adv 2 ?_
  rcases H with ⟨aa, H⟩ | ⟨aa, H⟩
  ·refine W.cb true k aa ?_
   exact W.adv 12 (W.fr (Ans.o (.int .i64 a) (by rw [H])))
  ·refine W.cb false k (bfalse aa) ?_
   exact W.adv 8 (W.tl H)
 ·refine W.cf (a < b) y ?_
  exact W.adv 11 (W.fr (Ans.o (.int .i64 (-1)) (by rw [H])))
theorem slices_IndexFunc___api_Link_api_Link__v0_go (H : slices_IndexFunc___api_Link_api_Link__v0_l0 f v (f.length : Int) 0 z) : slices_IndexFunc___api_Link_api_Link__v0_R f v z := by
 refine W.ii Tryz.func152 ?_
 refine W.adv 9 (W.opS (O.ln f E_api_Link) ?_)
 exact W.adv 4 (W.tl H)
end
section
variable (c : List T_api_Node) (e : ByteArray) (b a : Int) (f : List T_api_Node) (q : ByteArray) (z : Int)
noncomputable def slices_IndexFunc___api_Node_api_Node__v0_l0_s (j : Nat → D) (jb : Nat → Blk) (vs : Nat → Nat) : Cf := cfAt Tryz.f154 [1, 0, 1, 0] ⟨([(.list 2 (c.map E_api_Node)), (.fn 155 [] [(.ptr [.str e])])] ++ (J j 2 5 ++ ([.int .i64 b, .int .i64 a] ++ J j 9 10))), (J jb 0 19)⟩
def slices_IndexFunc___api_Node_api_Node__v0_l0 : Prop := ∀ j jb vs, W C F 154 0 (slices_IndexFunc___api_Node_api_Node__v0_l0_s c e b a  j jb vs) (Ans C Tryz.f154 (.int .i64 z))
variable {c e b a f q z}
theorem slices_IndexFunc___api_Node_api_Node__v0_l0_go (H : (a < b ∧ 0 ≤ a ∧ a < (c.length : Int) ∧ ∃ l p, c.getD (a).toNat (ByteArray.empty, []) = (l, p) ∧ ∃ k, formed_Node_1_v0_R l p e k ∧ (k = true ∧ (z = a) ∨ ¬ k = true ∧ slices_IndexFunc___api_Node_api_Node__v0_l0 c e b (wi (a + 1)) z)) ∨ ¬ a < b ∧ (z = (-1))) : slices_IndexFunc___api_Node_api_Node__v0_l0 c e b a z := by
 intro j jb vs
 refine W.adv 1 (W.adv 6 ?_)
 rcases H with ⟨s, H⟩ | ⟨s, H⟩
 ·refine W.ct (a < b) s ?_
  refine W.adv 15 ?_
  obtain ⟨u, v, H⟩ := H
  obtain ⟨l, p, y, H⟩ := H
  refine W.opS (O.ixE E_api_Node 2 .i64 c a (ByteArray.empty, []) (l, p) u v y) ?_
  refine W.adv 1 ?_
  obtain ⟨k, aa, H⟩ := H
  refine W.cl 155 [(.agg [.str l, (.list 2 (p.map E_api_Prefix))]), (.ptr [.str e])] (.bool k) aa ?_
  refine W.adv 2 ?_
  rcases H with ⟨t, H⟩ | ⟨t, H⟩
  ·refine W.cb true k t ?_
   exact W.adv 12 (W.fr (Ans.o (.int .i64 a) (by rw [H])))
  ·refine W.cb false k (bfalse t) ?_
   exact W.adv 8 (W.tl H)
 ·refine W.cf (a < b) s ?_
  exact W.adv 11 (W.fr (Ans.o (.int .i64 (-1)) (by rw [H])))
theorem slices_IndexFunc___api_Node_api_Node__v0_go (H : slices_IndexFunc___api_Node_api_Node__v0_l0 f q (f.length : Int) 0 z) : slices_IndexFunc___api_Node_api_Node__v0_R f q z := by
 refine W.ii Tryz.func154 ?_
 refine W.adv 9 (W.opS (O.ln f E_api_Node) ?_)
 exact W.adv 4 (W.tl H)
end
theorem slices_ContainsFunc___api_Rat_api_Rat__v0_go {b : List T_api_Rat} {z : Bool} (H : ∃ a, slices_IndexFunc___api_Rat_api_Rat__v0_R b a ∧ (z = (decide (0 ≤ a)))) : slices_ContainsFunc___api_Rat_api_Rat__v0_R b z := by
 refine W.ii Tryz.func156 ?_
 refine W.adv 9 ?_
 obtain ⟨a, c, H⟩ := H
 refine W.cl 185 [(.list 3 (b.map E_api_Rat)), .fn 157 [] []] (.int .i64 a) c ?_
 exact W.adv 5 (W.fr (Ans.o (.bool (decide (0 ≤ a))) (by rw [H])))
theorem slices_ContainsFunc___api_Hop_api_Hop__v0_go {b : List T_api_Hop} {z : Bool} (H : ∃ a, slices_IndexFunc___api_Hop_api_Hop__v0_R b a ∧ (z = (decide (0 ≤ a)))) : slices_ContainsFunc___api_Hop_api_Hop__v0_R b z := by
 refine W.ii Tryz.func62 ?_
 refine W.adv 9 ?_
 obtain ⟨a, c, H⟩ := H
 refine W.cl 122 [(.list 2 (b.map E_api_Hop)), .fn 111 [] []] (.int .i64 a) c ?_
 exact W.adv 5 (W.fr (Ans.o (.bool (decide (0 ≤ a))) (by rw [H])))
section
variable (b : List T71) (c a : Int) (e : List T71) (z : Int)
noncomputable def slices_IndexFunc_____api_Hop___api_Hop__v1_l0_s (j : Nat → D) (jb : Nat → Blk) (vs : Nat → Nat) : Cf := cfAt Tryz.f60 [1, 0, 1, 0] ⟨([(.list 1 (b.map E71)), .fn 110 [] []] ++ (J j 2 5 ++ ([.int .i64 c, .int .i64 a] ++ J j 9 10))), (J jb 0 19)⟩
def slices_IndexFunc_____api_Hop___api_Hop__v1_l0 : Prop := ∀ j jb vs, W C F 60 0 (slices_IndexFunc_____api_Hop___api_Hop__v1_l0_s b c a  j jb vs) (Ans C Tryz.f60 (.int .i64 z))
variable {b c a e z}
theorem slices_IndexFunc_____api_Hop___api_Hop__v1_l0_go (H : (a < c ∧ 0 ≤ a ∧ a < (b.length : Int) ∧ ∃ f, step_light_1_R (b.getD (a).toNat []) f ∧ (f = true ∧ (z = a) ∨ ¬ f = true ∧ slices_IndexFunc_____api_Hop___api_Hop__v1_l0 b c (wi (a + 1)) z)) ∨ ¬ a < c ∧ (z = (-1))) : slices_IndexFunc_____api_Hop___api_Hop__v1_l0 b c a z := by
 intro j jb vs
 refine W.adv 1 (W.adv 6 ?_)
 rcases H with ⟨k, H⟩ | ⟨k, H⟩
 ·refine W.ct (a < c) k ?_
  refine W.adv 15 ?_
  obtain ⟨p, q, H⟩ := H
  refine W.opS (O.ixE E71 1 .i64 b a [] (b.getD (a).toNat []) p q rfl) ?_
  refine W.adv 1 ?_
  obtain ⟨f, s, H⟩ := H
  refine W.cl 110 [(.list 2 ((b.getD (a).toNat []).map E_api_Hop))] (.bool f) s ?_
  refine W.adv 2 ?_
  rcases H with ⟨l, H⟩ | ⟨l, H⟩
  ·refine W.cb true f l ?_
   exact W.adv 12 (W.fr (Ans.o (.int .i64 a) (by rw [H])))
  ·refine W.cb false f (bfalse l) ?_
   exact W.adv 8 (W.tl H)
 ·refine W.cf (a < c) k ?_
  exact W.adv 11 (W.fr (Ans.o (.int .i64 (-1)) (by rw [H])))
theorem slices_IndexFunc_____api_Hop___api_Hop__v1_go (H : slices_IndexFunc_____api_Hop___api_Hop__v1_l0 e (e.length : Int) 0 z) : slices_IndexFunc_____api_Hop___api_Hop__v1_R e z := by
 refine W.ii Tryz.func60 ?_
 refine W.adv 9 (W.opS (O.ln e E71) ?_)
 exact W.adv 4 (W.tl H)
end
section
variable (c : List T_api_Rat) (b a : Int) (e : List T_api_Rat) (z : Int)
noncomputable def slices_IndexFunc___api_Rat_api_Rat__v0_l0_s (j : Nat → D) (jb : Nat → Blk) (vs : Nat → Nat) : Cf := cfAt Tryz.f185 [1, 0, 1, 0] ⟨([(.list 3 (c.map E_api_Rat)), .fn 157 [] []] ++ (J j 2 5 ++ ([.int .i64 b, .int .i64 a] ++ J j 9 10))), (J jb 0 19)⟩
def slices_IndexFunc___api_Rat_api_Rat__v0_l0 : Prop := ∀ j jb vs, W C F 185 0 (slices_IndexFunc___api_Rat_api_Rat__v0_l0_s c b a  j jb vs) (Ans C Tryz.f185 (.int .i64 z))
variable {c b a e z}
theorem slices_IndexFunc___api_Rat_api_Rat__v0_l0_go (H : (a < b ∧ 0 ≤ a ∧ a < (c.length : Int) ∧ ∃ k l p, c.getD (a).toNat (false, [], []) = (k, l, p) ∧ ∃ f, fail_right_1_R k l p f ∧ (f = true ∧ (z = a) ∨ ¬ f = true ∧ slices_IndexFunc___api_Rat_api_Rat__v0_l0 c b (wi (a + 1)) z)) ∨ ¬ a < b ∧ (z = (-1))) : slices_IndexFunc___api_Rat_api_Rat__v0_l0 c b a z := by
 intro j jb vs
 refine W.adv 1 (W.adv 6 ?_)
 rcases H with ⟨q, H⟩ | ⟨q, H⟩
 ·refine W.ct (a < b) q ?_
  refine W.adv 15 ?_
  obtain ⟨t, u, H⟩ := H
  obtain ⟨k, l, p, v, H⟩ := H
  refine W.opS (O.ixE E_api_Rat 3 .i64 c a (false, [], []) (k, l, p) t u v) ?_
  refine W.adv 1 ?_
  obtain ⟨f, y, H⟩ := H
  refine W.cl 157 [(.agg [.bool k, .ints .u64 l, .ints .u64 p])] (.bool f) y ?_
  refine W.adv 2 ?_
  rcases H with ⟨s, H⟩ | ⟨s, H⟩
  ·refine W.cb true f s ?_
   exact W.adv 12 (W.fr (Ans.o (.int .i64 a) (by rw [H])))
  ·refine W.cb false f (bfalse s) ?_
   exact W.adv 8 (W.tl H)
 ·refine W.cf (a < b) q ?_
  exact W.adv 11 (W.fr (Ans.o (.int .i64 (-1)) (by rw [H])))
theorem slices_IndexFunc___api_Rat_api_Rat__v0_go (H : slices_IndexFunc___api_Rat_api_Rat__v0_l0 e (e.length : Int) 0 z) : slices_IndexFunc___api_Rat_api_Rat__v0_R e z := by
 refine W.ii Tryz.func185 ?_
 refine W.adv 9 (W.opS (O.ln e E_api_Rat) ?_)
 exact W.adv 4 (W.tl H)
end
section
variable (c : List T_api_Hop) (b a : Int) (e : List T_api_Hop) (z : Int)
noncomputable def slices_IndexFunc___api_Hop_api_Hop__v0_l0_s (j : Nat → D) (jb : Nat → Blk) (vs : Nat → Nat) : Cf := cfAt Tryz.f122 [1, 0, 1, 0] ⟨([(.list 2 (c.map E_api_Hop)), .fn 111 [] []] ++ (J j 2 5 ++ ([.int .i64 b, .int .i64 a] ++ J j 9 10))), (J jb 0 19)⟩
def slices_IndexFunc___api_Hop_api_Hop__v0_l0 : Prop := ∀ j jb vs, W C F 122 0 (slices_IndexFunc___api_Hop_api_Hop__v0_l0_s c b a  j jb vs) (Ans C Tryz.f122 (.int .i64 z))
variable {c b a e z}
theorem slices_IndexFunc___api_Hop_api_Hop__v0_l0_go (H : (a < b ∧ 0 ≤ a ∧ a < (c.length : Int) ∧ ∃ k l, c.getD (a).toNat (ByteArray.empty, 0) = (k, l) ∧ ∃ f, step_light_1_1_R k l f ∧ (f = true ∧ (z = a) ∨ ¬ f = true ∧ slices_IndexFunc___api_Hop_api_Hop__v0_l0 c b (wi (a + 1)) z)) ∨ ¬ a < b ∧ (z = (-1))) : slices_IndexFunc___api_Hop_api_Hop__v0_l0 c b a z := by
 intro j jb vs
 refine W.adv 1 (W.adv 6 ?_)
 rcases H with ⟨p, H⟩ | ⟨p, H⟩
 ·refine W.ct (a < b) p ?_
  refine W.adv 15 ?_
  obtain ⟨s, t, H⟩ := H
  obtain ⟨k, l, u, H⟩ := H
  refine W.opS (O.ixE E_api_Hop 2 .i64 c a (ByteArray.empty, 0) (k, l) s t u) ?_
  refine W.adv 1 ?_
  obtain ⟨f, v, H⟩ := H
  refine W.cl 111 [(.agg [.str k, .int .i64 l])] (.bool f) v ?_
  refine W.adv 2 ?_
  rcases H with ⟨q, H⟩ | ⟨q, H⟩
  ·refine W.cb true f q ?_
   exact W.adv 12 (W.fr (Ans.o (.int .i64 a) (by rw [H])))
  ·refine W.cb false f (bfalse q) ?_
   exact W.adv 8 (W.tl H)
 ·refine W.cf (a < b) p ?_
  exact W.adv 11 (W.fr (Ans.o (.int .i64 (-1)) (by rw [H])))
theorem slices_IndexFunc___api_Hop_api_Hop__v0_go (H : slices_IndexFunc___api_Hop_api_Hop__v0_l0 e (e.length : Int) 0 z) : slices_IndexFunc___api_Hop_api_Hop__v0_R e z := by
 refine W.ii Tryz.func122 ?_
 refine W.adv 9 (W.opS (O.ln e E_api_Hop) ?_)
 exact W.adv 4 (W.tl H)
end
section
variable (b : List T71) (f : Int) (k : Bool) (l p : List Int) (q : List T_string) (c : List (T_string × T_int)) (s : List T_api_Rat) (e a : Int) (t : List T71) (y : Int) (aa : Bool) (ab ac : List Int) (ad : List T_string) (v : List (T_string × T_int)) (ae : List T_api_Rat) (z : Int)
noncomputable def slices_IndexFunc_____api_Hop___api_Hop__v2_l0_s (j : Nat → D) (jb : Nat → Blk) (vs : Nat → Nat) : Cf := cfAt Tryz.f60 [1, 0, 1, 0] ⟨([(.list 1 (b.map E71)), (.fn 61 [] [(.ptr [(.fn 42 [] [(.ptr [.int .u64 f, .bool k, .ints .u64 l, .ints .u64 p]), (.ptr [(.list 1 (q.map E_string)), (.mlit (mks E_string c) (mvs E_int c)), (.list 3 (s.map E_api_Rat))])])])])] ++ (J j 2 5 ++ ([.int .i64 e, .int .i64 a] ++ J j 9 10))), (J jb 0 19)⟩
def slices_IndexFunc_____api_Hop___api_Hop__v2_l0 : Prop := ∀ j jb vs, W C F 60 0 (slices_IndexFunc_____api_Hop___api_Hop__v2_l0_s b f k l p q c s e a  j jb vs) (Ans C Tryz.f60 (.int .i64 z))
variable {b f k l p q c s e a t y aa ab ac ad v ae z}
theorem slices_IndexFunc_____api_Hop___api_Hop__v2_l0_go (H : (a < e ∧ 0 ≤ a ∧ a < (b.length : Int) ∧ ∃ u, step_Group_1_v1_R (b.getD (a).toNat []) f k l p q c s u ∧ (u = true ∧ (z = a) ∨ ¬ u = true ∧ slices_IndexFunc_____api_Hop___api_Hop__v2_l0 b f k l p q c s e (wi (a + 1)) z)) ∨ ¬ a < e ∧ (z = (-1))) : slices_IndexFunc_____api_Hop___api_Hop__v2_l0 b f k l p q c s e a z := by
 intro j jb vs
 refine W.adv 1 (W.adv 6 ?_)
 rcases H with ⟨af, H⟩ | ⟨af, H⟩
 ·refine W.ct (a < e) af ?_
  refine W.adv 15 ?_
  obtain ⟨ai, ak, H⟩ := H
  refine W.opS (O.ixE E71 1 .i64 b a [] (b.getD (a).toNat []) ai ak rfl) ?_
  refine W.adv 1 ?_
  obtain ⟨u, al, H⟩ := H
  refine W.cl 61 [(.list 2 ((b.getD (a).toNat []).map E_api_Hop)), (.ptr [(.fn 42 [] [(.ptr [.int .u64 f, .bool k, .ints .u64 l, .ints .u64 p]), (.ptr [(.list 1 (q.map E_string)), (.mlit (mks E_string c) (mvs E_int c)), (.list 3 (s.map E_api_Rat))])])])] (.bool u) al ?_
  refine W.adv 2 ?_
  rcases H with ⟨ag, H⟩ | ⟨ag, H⟩
  ·refine W.cb true u ag ?_
   exact W.adv 12 (W.fr (Ans.o (.int .i64 a) (by rw [H])))
  ·refine W.cb false u (bfalse ag) ?_
   exact W.adv 8 (W.tl H)
 ·refine W.cf (a < e) af ?_
  exact W.adv 11 (W.fr (Ans.o (.int .i64 (-1)) (by rw [H])))
theorem slices_IndexFunc_____api_Hop___api_Hop__v2_go (H : slices_IndexFunc_____api_Hop___api_Hop__v2_l0 t y aa ab ac ad v ae (t.length : Int) 0 z) : slices_IndexFunc_____api_Hop___api_Hop__v2_R t y aa ab ac ad v ae z := by
 refine W.ii Tryz.func60 ?_
 refine W.adv 9 (W.opS (O.ln t E71) ?_)
 exact W.adv 4 (W.tl H)
end
theorem slices_ContainsFunc___api_Hop_api_Hop__v2_go {c : List T_api_Hop} {e : Int} {f : Bool} {i k : List Int} {l : List T_string} {a : List (T_string × T_int)} {m : List T_api_Rat} {z : Bool} (H : ∃ b, slices_IndexFunc___api_Hop_api_Hop__v2_R c e f i k l a m b ∧ (z = (decide (0 ≤ b)))) : slices_ContainsFunc___api_Hop_api_Hop__v2_R c e f i k l a m z := by
 refine W.ii Tryz.func62 ?_
 refine W.adv 9 ?_
 obtain ⟨b, n, H⟩ := H
 refine W.cl 122 [(.list 2 (c.map E_api_Hop)), (.fn 63 [] [(.ptr [(.fn 42 [] [(.ptr [.int .u64 e, .bool f, .ints .u64 i, .ints .u64 k]), (.ptr [(.list 1 (l.map E_string)), (.mlit (mks E_string a) (mvs E_int a)), (.list 3 (m.map E_api_Rat))])])])])] (.int .i64 b) n ?_
 exact W.adv 5 (W.fr (Ans.o (.bool (decide (0 ≤ b))) (by rw [H])))
section
variable (e : List T_api_Hop) (f : Int) (k : Bool) (l p : List Int) (q : List T_string) (b : List (T_string × T_int)) (s : List T_api_Rat) (c a : Int) (t : List T_api_Hop) (ab : Int) (ac : Bool) (ad ae : List Int) (af : List T_string) (aa : List (T_string × T_int)) (ag : List T_api_Rat) (z : Int)
noncomputable def slices_IndexFunc___api_Hop_api_Hop__v2_l0_s (j : Nat → D) (jb : Nat → Blk) (vs : Nat → Nat) : Cf := cfAt Tryz.f122 [1, 0, 1, 0] ⟨([(.list 2 (e.map E_api_Hop)), (.fn 63 [] [(.ptr [(.fn 42 [] [(.ptr [.int .u64 f, .bool k, .ints .u64 l, .ints .u64 p]), (.ptr [(.list 1 (q.map E_string)), (.mlit (mks E_string b) (mvs E_int b)), (.list 3 (s.map E_api_Rat))])])])])] ++ (J j 2 5 ++ ([.int .i64 c, .int .i64 a] ++ J j 9 10))), (J jb 0 19)⟩
def slices_IndexFunc___api_Hop_api_Hop__v2_l0 : Prop := ∀ j jb vs, W C F 122 0 (slices_IndexFunc___api_Hop_api_Hop__v2_l0_s e f k l p q b s c a  j jb vs) (Ans C Tryz.f122 (.int .i64 z))
variable {e f k l p q b s c a t ab ac ad ae af aa ag z}
theorem slices_IndexFunc___api_Hop_api_Hop__v2_l0_go (H : (a < c ∧ 0 ≤ a ∧ a < (e.length : Int) ∧ ∃ v y, e.getD (a).toNat (ByteArray.empty, 0) = (v, y) ∧ ∃ u, step_Group_1_1_v1_R v y f k l p q b s u ∧ (u = true ∧ (z = a) ∨ ¬ u = true ∧ slices_IndexFunc___api_Hop_api_Hop__v2_l0 e f k l p q b s c (wi (a + 1)) z)) ∨ ¬ a < c ∧ (z = (-1))) : slices_IndexFunc___api_Hop_api_Hop__v2_l0 e f k l p q b s c a z := by
 intro j jb vs
 refine W.adv 1 (W.adv 6 ?_)
 rcases H with ⟨ai, H⟩ | ⟨ai, H⟩
 ·refine W.ct (a < c) ai ?_
  refine W.adv 15 ?_
  obtain ⟨al, am, H⟩ := H
  obtain ⟨v, y, an, H⟩ := H
  refine W.opS (O.ixE E_api_Hop 2 .i64 e a (ByteArray.empty, 0) (v, y) al am an) ?_
  refine W.adv 1 ?_
  obtain ⟨u, ap, H⟩ := H
  refine W.cl 63 [(.agg [.str v, .int .i64 y]), (.ptr [(.fn 42 [] [(.ptr [.int .u64 f, .bool k, .ints .u64 l, .ints .u64 p]), (.ptr [(.list 1 (q.map E_string)), (.mlit (mks E_string b) (mvs E_int b)), (.list 3 (s.map E_api_Rat))])])])] (.bool u) ap ?_
  refine W.adv 2 ?_
  rcases H with ⟨ak, H⟩ | ⟨ak, H⟩
  ·refine W.cb true u ak ?_
   exact W.adv 12 (W.fr (Ans.o (.int .i64 a) (by rw [H])))
  ·refine W.cb false u (bfalse ak) ?_
   exact W.adv 8 (W.tl H)
 ·refine W.cf (a < c) ai ?_
  exact W.adv 11 (W.fr (Ans.o (.int .i64 (-1)) (by rw [H])))
theorem slices_IndexFunc___api_Hop_api_Hop__v2_go (H : slices_IndexFunc___api_Hop_api_Hop__v2_l0 t ab ac ad ae af aa ag (t.length : Int) 0 z) : slices_IndexFunc___api_Hop_api_Hop__v2_R t ab ac ad ae af aa ag z := by
 refine W.ii Tryz.func122 ?_
 refine W.adv 9 (W.opS (O.ln t E_api_Hop) ?_)
 exact W.adv 4 (W.tl H)
end
end Go.Proofs.YtjcdkemnflmfiaaGreatA
namespace Go.Proofs.YtjcdkemnflmfiaaGreatA
open Go Go.Proofs
section
variable (b a e f z : List Int)
noncomputable def gcd_Euclid_l0_s (j : Nat → D) (jb : Nat → Blk) (vs : Nat → Nat) : Cf := cfAt Tryz.f178 [1, 1, 1, 0, 0] ⟨(J j 0 5 ++ ([.ints .u64 b, j 6, .ints .u64 a] ++ J j 8 25)), (J jb 0 33)⟩
def gcd_Euclid_l0 : Prop := ∀ j jb vs, W C F 178 0 (gcd_Euclid_l0_s b a  j jb vs) (Ans C Tryz.f178 (.ints .u64 z))
variable {b a e f z}
theorem gcd_Euclid_l0_go (H : (0 < (a.length : Int) ∧ ∃ c l, divide_Mod_R b a c l ∧ gcd_Euclid_l0 a c z) ∨ ¬ 0 < (a.length : Int) ∧ (z = b)) : gcd_Euclid_l0 b a z := by
 intro j jb vs
 refine W.adv 1 (W.adv 8 ?_)
 rcases H with ⟨m, H⟩ | ⟨m, H⟩
 ·refine W.ct (0 < (a.length : Int)) m ?_
  refine W.adv 7 ?_
  obtain ⟨c, l, q, H⟩ := H
  refine W.cl 199 [.ints .u64 b, .ints .u64 a] (.tuple [.ints .u64 c, .int .i64 l]) q ?_
  exact W.adv 15 (W.tl H)
 ·refine W.cf (0 < (a.length : Int)) m ?_
  exact W.adv 12 (W.fr (Ans.o (.ints .u64 b) (by rw [H])))
theorem gcd_Euclid_go (H : ∃ i n, nat_Make_R e i n ∧ ∃ k p, nat_Make_R f k p ∧ gcd_Euclid_l0 i k z) : gcd_Euclid_R e f z := by
 refine W.ii Tryz.func178 ?_
 refine W.adv 8 ?_
 obtain ⟨i, n, s, H⟩ := H
 refine W.cl 180 [.ints .u64 e] (.tuple [.ints .u64 i, .int .i64 n]) s ?_
 refine W.adv 10 ?_
 obtain ⟨k, p, t, H⟩ := H
 refine W.cl 180 [.ints .u64 f] (.tuple [.ints .u64 k, .int .i64 p]) t ?_
 exact W.adv 9 (W.tl H)
end
theorem divide_Exact_go {f i k : List Int} {l : Int} (H : ∃ c e a, divide_Div_R f i c e a ∧ (a = 0 ∧ (0 < (e.length : Int) ∧ k = [] ∧ l = 4 ∨ ¬ 0 < (e.length : Int) ∧ k = c ∧ l = a) ∨ ¬ a = 0 ∧ k = [] ∧ l = a)) : divide_Exact_R f i k l := by
 refine W.ii Tryz.func179 ?_
 refine W.adv 10 ?_
 obtain ⟨c, e, a, p, H⟩ := H
 refine W.cl 200 [.ints .u64 f, .ints .u64 i] (.tuple [.ints .u64 c, .ints .u64 e, .int .i64 a]) p ?_
 refine W.adv 18 ?_
 rcases H with ⟨m, H⟩ | ⟨m, H⟩
 ·refine W.cb false (!(decide (a = 0))) (congrArg (fun b => !b) (decide_eq_true m)) ?_
  refine W.adv 8 ?_
  rcases H with ⟨n, H⟩ | ⟨n, H⟩
  ·refine W.ct (0 < (e.length : Int)) n ?_
   exact W.adv 9 (W.fr (Ans.q (.tuple [.ints .u64 [], .int .i64 4]) (by rw [H.1, H.2])))
  ·refine W.cf (0 < (e.length : Int)) n ?_
   exact W.adv 12 (W.fr (Ans.o (.tuple [.ints .u64 c, .int .i64 a]) (by rw [H.1, H.2])))
 ·refine W.cb true (!(decide (a = 0))) (congrArg (fun b => !b) (decide_eq_false m)) ?_
  exact W.adv 10 (W.fr (Ans.q (.tuple [.ints .u64 [], .int .i64 a]) (by rw [H.1, H.2])))
theorem divide_Mod_go {c e i : List Int} {k : Int} (H : ∃ f a b, divide_Div_R c e f a b ∧ i = a ∧ k = b) : divide_Mod_R c e i k := by
 refine W.ii Tryz.func199 ?_
 refine W.adv 10 ?_
 obtain ⟨f, a, b, l, H⟩ := H
 refine W.cl 200 [.ints .u64 c, .ints .u64 e] (.tuple [.ints .u64 f, .ints .u64 a, .int .i64 b]) l ?_
 exact W.adv 18 (W.fr (Ans.o (.tuple [.ints .u64 a, .int .i64 b]) (by rw [H.1, H.2])))
theorem divide_Div_go {c a m n : List Int} {p : Int} (H : (a.length : Int) = 0 ∧ m = [] ∧ n = [] ∧ p = 3 ∨ ¬ (a.length : Int) = 0 ∧ ∃ e, nat_May_R c e ∧ ((e = true ∧ ∃ l, nat_May_R a l ∧ ((l = true ∧ ∃ q, nat_Cmp_R c a q ∧ ((q < 0 ∧ ∃ s u, nat_Make_R c s u ∧ m = [] ∧ n = s ∧ p = u) ∨ ¬ q < 0 ∧ (((a.length : Int) = 1 ∧ 0 < (a.length : Int) ∧ ∃ v ad z, divide_Small_R c (a.getD 0 0) v ad z ∧ ∃ aa, nat_Of_R ad aa ∧ m = v ∧ n = aa ∧ p = z) ∨ ¬ (a.length : Int) = 1 ∧ ∃ ab ac, divide_knuth_R c a ab ac ∧ m = ab ∧ n = ac ∧ p = 0))) ∨ ¬ l = true ∧ m = [] ∧ n = [] ∧ p = 2)) ∨ ¬ e = true ∧ m = [] ∧ n = [] ∧ p = 2)) : divide_Div_R c a m n p := by
 refine W.ii Tryz.func200 ?_
 refine W.adv 17 ?_
 rcases H with ⟨ae, H⟩ | ⟨ae, H⟩
 ·refine W.ct ((a.length : Int) = 0) ae ?_
  exact W.adv 10 (W.fr (Ans.q (.tuple [.ints .u64 [], .ints .u64 [], .int .i64 3]) (by rw [H.1, H.2.1, H.2.2])))
 ·refine W.cf ((a.length : Int) = 0) ae ?_
  refine W.adv 3 ?_
  obtain ⟨e, ak, H⟩ := H
  refine W.cl 209 [.ints .u64 c] (.bool e) ak ?_
  refine W.adv 2 ?_
  rcases H with ⟨f, H⟩ | ⟨f, H⟩
  ·refine W.gb true ((!e) == false) (congrArg (fun b => b == false) (congrArg (fun b => !b) f)) ?_
   refine W.adv 1 (W.gb true ((!e) == false) (congrArg (fun b => b == false) (congrArg (fun b => !b) f)) ?_)
   obtain ⟨l, al, H⟩ := H
   refine W.cl 209 [.ints .u64 a] (.bool l) al ?_
   refine W.gb true ((!e) == false) (congrArg (fun b => b == false) (congrArg (fun b => !b) f)) ?_
   refine W.adv 1 (W.opS (O.pk (!e) false (.bool true) (.bool (!l)) (congrArg (fun b => !b) f)) ?_)
   refine W.adv 3 ?_
   rcases H with ⟨af, H⟩ | ⟨af, H⟩
   ·refine W.cb false (!l) (congrArg (fun b => !b) af) ?_
    refine W.adv 4 ?_
    obtain ⟨q, am, H⟩ := H
    refine W.cl 101 [.ints .u64 c, .ints .u64 a] (.int .i64 q) am ?_
    refine W.adv 4 ?_
    rcases H with ⟨ag, H⟩ | ⟨ag, H⟩
    ·refine W.ct (q < 0) ag ?_
     refine W.adv 3 ?_
     obtain ⟨s, u, an, H⟩ := H
     refine W.cl 180 [.ints .u64 c] (.tuple [.ints .u64 s, .int .i64 u]) an ?_
     exact W.adv 19 (W.fr (Ans.q (.tuple [.ints .u64 [], .ints .u64 s, .int .i64 u]) (by rw [H.1, H.2.1, H.2.2])))
    ·refine W.cf (q < 0) ag ?_
     refine W.adv 8 ?_
     rcases H with ⟨ai, H⟩ | ⟨ai, H⟩
     ·refine W.ct ((a.length : Int) = 1) ai ?_
      refine W.adv 4 ?_
      obtain ⟨ap, H⟩ := H
      refine W.opS (O.ixI .u64 .i64 a 0 (by decide) ap) ?_
      refine W.adv 1 ?_
      obtain ⟨v, ad, z, aq, H⟩ := H
      refine W.cl 212 [.ints .u64 c, (.int .u64 (a.getD 0 0))] (.tuple [.ints .u64 v, .int .u64 ad, .int .i64 z]) aq ?_
      refine W.adv 13 ?_
      obtain ⟨aa, ar, H⟩ := H
      refine W.cl 150 [.int .u64 ad] (.ints .u64 aa) ar ?_
      exact W.adv 9 (W.fr (Ans.o (.tuple [.ints .u64 v, .ints .u64 aa, .int .i64 z]) (by rw [H.1, H.2.1, H.2.2])))
     ·refine W.cf ((a.length : Int) = 1) ai ?_
      refine W.adv 7 ?_
      obtain ⟨ab, ac, au, H⟩ := H
      refine W.cl 213 [.ints .u64 c, .ints .u64 a] (.tuple [.ints .u64 ab, .ints .u64 ac]) au ?_
      exact W.adv 17 (W.fr (Ans.o (.tuple [.ints .u64 ab, .ints .u64 ac, .int .i64 0]) (by rw [H.1, H.2.1, H.2.2])))
   ·refine W.cb true (!l) (congrArg (fun b => !b) (bfalse af)) ?_
    exact W.adv 10 (W.fr (Ans.q (.tuple [.ints .u64 [], .ints .u64 [], .int .i64 2]) (by rw [H.1, H.2.1, H.2.2])))
  ·refine W.gb false ((!e) == false) (congrArg (fun b => b == false) (congrArg (fun b => !b) (bfalse f))) ?_
   refine W.gb false ((!e) == false) (congrArg (fun b => b == false) (congrArg (fun b => !b) (bfalse f))) ?_
   refine W.gb false ((!e) == false) (congrArg (fun b => b == false) (congrArg (fun b => !b) (bfalse f))) ?_
   refine W.opS (O.pk (!e) true (.bool true) (.tuple []) (congrArg (fun b => !b) (bfalse f))) ?_
   exact W.adv 14 (W.fr (Ans.q (.tuple [.ints .u64 [], .ints .u64 [], .int .i64 2]) (by rw [H.1, H.2.1, H.2.2])))
section
variable (a : List Int) (q f p c : Int) (l : List Int) (s : Nat) (e : List Int) (aa : Int) (t : List Int) (u z : Int)
noncomputable def divide_Small_l0_s (j : Nat → D) (jb : Nat → Blk) (vs : Nat → Nat) : Cf := cfAt Tryz.f212 [1, 1, 1, 1, 0, 1, 0] ⟨([.ints .u64 a, .int .u64 q] ++ (J j 2 5 ++ ([.sref 18 1 1 0 s, .int .u64 f] ++ (J j 9 11 ++ ([.int .i64 p, .int .i64 c] ++ J j 22 29))))), (J jb 0 18 ++ ([⟨1, false, .ints .u64 l⟩] ++ J jb 19 32))⟩
def divide_Small_l0 : Prop := ∀ s, s = l.length → ∀ j jb vs, W C F 212 0 (divide_Small_l0_s a q f p c l s j jb vs) (Ans C Tryz.f212 (.tuple [.ints .u64 t, .int .u64 u, .int .i64 z]))
variable {a q f p c l s e aa t u z}
theorem divide_Small_l0_go (H : (c < p ∧ 0 ≤ (wi ((wi ((a.length : Int) - 1)) - c)) ∧ (wi ((wi ((a.length : Int) - 1)) - c)) < (a.length : Int) ∧ ∃ ac ad ag, limb_Div_R f (a.getD (wi ((wi ((a.length : Int) - 1)) - c)).toNat 0) q ac ad ag ∧ (wi ((wi ((a.length : Int) - 1)) - c)) < (l.length : Int) ∧ ∃ ae, ae = l.set (wi ((wi ((a.length : Int) - 1)) - c)).toNat ac ∧ divide_Small_l0 a q ad p (wi (c + 1)) ae t u z) ∨ ¬ c < p ∧ ∃ ab ai, nat_Make_R l ab ai ∧ t = ab ∧ u = f ∧ z = 0) : divide_Small_l0 a q f p c l t u z := by
 intro s ak j jb vs
 refine W.adv 1 (W.adv 6 ?_)
 rcases H with ⟨al, H⟩ | ⟨al, H⟩
 ·refine W.ct (c < p) al ?_
  refine W.adv 26 ?_
  obtain ⟨an, ar, H⟩ := H
  refine W.opS (O.ixI .u64 .i64 a (wi ((wi ((a.length : Int) - 1)) - c)) an ar) ?_
  refine W.adv 2 ?_
  obtain ⟨ac, ad, ag, au, H⟩ := H
  refine W.cl 217 [.int .u64 f, (.int .u64 (a.getD (wi ((wi ((a.length : Int) - 1)) - c)).toNat 0)), .int .u64 q] (.tuple [.int .u64 ac, .int .u64 ad, .int .i64 ag]) au ?_
  refine W.adv 4 ?_
  obtain ⟨av, H⟩ := H
  refine W.opS (O.ixR .i64 18 1 1 s (wi ((wi ((a.length : Int) - 1)) - c)) an (by rw [ak]; exact av)) ?_
  obtain ⟨ae, ap, H⟩ := H
  have aw : s = ae.length := by rw [ap, List.length_set] <;> exact ak
  refine W.opH (OpIs.stN (b := 18) (v := 1) (i := (wi ((wi ((a.length : Int) - 1)) - c)).toNat) (w := 1) (k := .u64) (xs := l) (n := ac) (by kernel_rfl) ap rfl (by omega)) ?_
  exact W.adv 9 (W.tl (H _ aw))
 ·refine W.cf (c < p) al ?_
  refine W.adv 8 ?_
  obtain ⟨ab, ai, ay, H⟩ := H
  refine W.callR (g := 180) (ds := [.sref 18 1 1 0 s]) (es := [.ints .u64 l]) (r := (.tuple [.ints .u64 ab, .int .i64 ai])) (by kernel_rfl) (rf_cons (rf_full (b := 18) (v := 1) (w := 1) (fz := false) (k := .u64) (xs := l) (by kernel_rfl) rfl ak) rf_nil) (Ic.args ay (by kernel_rfl)) (by kernel_rfl) ?_
  exact W.adv 17 (W.fr (Ans.o (.tuple [.ints .u64 ab, .int .u64 f, .int .i64 0]) (by rw [H.1, H.2.1, H.2.2])))
theorem divide_Small_go (H : (aa.tmod 4294967296) = 0 ∧ t = [] ∧ u = 0 ∧ z = 3 ∨ ¬ (aa.tmod 4294967296) = 0 ∧ 0 ≤ (e.length : Int) ∧ 8 * (e.length : Int) ≤ 140737488351232 ∧ ∃ af, af = List.replicate (e.length : Int).toNat 0 ∧ divide_Small_l0 e aa 0 (e.length : Int) 0 af t u z) : divide_Small_R e aa t u z := by
 refine W.ii Tryz.func212 ?_
 refine W.adv 15 ?_
 rcases H with ⟨am, H⟩ | ⟨am, H⟩
 ·refine W.ct ((aa.tmod 4294967296) = 0) am ?_
  exact W.adv 9 (W.fr (Ans.q (.tuple [.ints .u64 [], .int .u64 0, .int .i64 3]) (by rw [H.1, H.2.1, H.2.2])))
 ·refine W.cf ((aa.tmod 4294967296) = 0) am ?_
  refine W.adv 6 ?_
  obtain ⟨az, a2, H⟩ := H
  obtain ⟨af, aq, H⟩ := H
  have a3 : (e.length : Int).toNat = af.length := by rw [aq, List.length_replicate]
  refine W.opH (OpIs.msN (k1 := .i64) (k2 := .i64) (k := .u64) (n := (e.length : Int)) (m := (e.length : Int)) (y := 8) (b := 18) (v := 0) (by kernel_rfl) aq az (Int.le_refl _) a2 (by omega)) ?_
  exact W.adv 17 (W.tl (H _ a3))
end
section
variable (t : Int) (f : List Int) (a : Int) (l u : List Int) (s p : Nat) (e c ab ac : List Int)
noncomputable def divide_knuth_l0_s (j : Nat → D) (jb : Nat → Blk) (vs : Nat → Nat) : Cf := cfAt Tryz.f213 [1, 1, 1, 1, 1, 1, 1, 0, 1, 0] ⟨(J j 0 6 ++ ([.int .i64 t, .ints .u64 f, j 8, .sref 35 1 1 0 s, j 10, j 11, .sref 51 1 1 0 p, .int .i64 a] ++ J j 14 90)), (J jb 0 35 ++ ([⟨1, false, .ints .u64 l⟩] ++ (J jb 36 15 ++ ([⟨1, false, .ints .u64 u⟩] ++ J jb 52 52))))⟩
def divide_knuth_l0 : Prop := ∀ s, s = l.length → ∀ p, p = u.length → ∀ j jb vs, W C F 213 0 (divide_knuth_l0_s t f a l u s p j jb vs) (Ans C Tryz.f213 (.tuple [.ints .u64 ab, .ints .u64 ac]))
variable {t f a l u s p e c ab ac}
theorem divide_knuth_l0_go (H : (0 ≤ a ∧ ∃ ap, divide_guess_R l a f ap ∧ a < (u.length : Int) ∧ ∃ q, q = u.set (a).toNat ap ∧ a < (q.length : Int) ∧ ∃ af aa, aa.length = l.length ∧ divide_take_R l a f (q.getD (a).toNat 0) af aa ∧ ((af = true ∧ ∃ aq, aq = q.set (a).toNat (wu ((q.getD (a).toNat 0) - 1)) ∧ ∃ ag, ag.length = aa.length ∧ divide_give_R aa a f ag ∧ divide_knuth_l0 t f (wi (a - 1)) ag aq ab ac) ∨ ¬ af = true ∧ divide_knuth_l0 t f (wi (a - 1)) aa q ab ac)) ∨ ¬ 0 ≤ a ∧ ∃ ai ay, nat_Make_R u ai ay ∧ ∃ am az, nat_Make_R l am az ∧ ∃ ak a2, nat_Shr_R am t ak a2 ∧ ab = ai ∧ ac = ak) : divide_knuth_l0 t f a l u ab ac := by
 intro s aw p a3 j jb vs
 refine W.adv 1 (W.adv 7 ?_)
 rcases H with ⟨al, H⟩ | ⟨al, H⟩
 ·refine W.ct (0 ≤ a) al ?_
  refine W.adv 11 ?_
  obtain ⟨ap, be, H⟩ := H
  refine W.callR (g := 220) (ds := [.sref 35 1 1 0 s, .int .i64 a, .ints .u64 f]) (es := [.ints .u64 l, .int .i64 a, .ints .u64 f]) (r := (.int .u64 ap)) (by kernel_rfl) (rf_cons (rf_full (b := 35) (v := 1) (w := 1) (fz := false) (k := .u64) (xs := l) (by kernel_rfl) rfl aw) (rf_cons (by kernel_rfl) (rf_cons (by kernel_rfl) rf_nil))) (Ic.args be (by kernel_rfl)) (by kernel_rfl) ?_
  obtain ⟨bf, H⟩ := H
  refine W.opS (O.ixR .i64 51 1 1 p a al (by rw [a3]; exact bf)) ?_
  obtain ⟨q, a9, H⟩ := H
  have ar : p = q.length := by rw [a9, List.length_set] <;> exact a3
  refine W.opH (OpIs.stN (b := 51) (v := 1) (i := (a).toNat) (w := 1) (k := .u64) (xs := u) (n := ap) (by kernel_rfl) a9 rfl (by omega)) ?_
  refine W.adv 9 ?_
  obtain ⟨a4, H⟩ := H
  refine W.opS (O.ixR .i64 51 1 1 p a al (by rw [ar]; exact a4)) ?_
  refine W.opS (OpIs.ldI (b := 51) (v := 1) (i := (a).toNat) (w := 1) (fz := false) (k := .u64) (xs := q) (by kernel_rfl) rfl (by omega)) ?_
  obtain ⟨af, aa, bg, bi, H⟩ := H
  have a5 : s = aa.length := by rw [bg]; exact aw
  refine W.sharedP (g := 221) (ds := [.sref 35 1 1 0 s, .int .i64 a, .ints .u64 f, (.int .u64 (q.getD (a).toNat 0))]) (d := (.bool af)) (P := (fun cb => [cb 0, cb 1, cb 2, cb 3, cb 4, cb 5, cb 6, cb 7, cb 8, cb 9, cb 10, cb 11, cb 12, cb 13, cb 14, cb 15, cb 16, cb 17, cb 18, cb 19, cb 20, cb 21, cb 22, cb 23, cb 24, cb 25, cb 26, cb 27, cb 28, cb 29, cb 30, cb 31, cb 32, cb 33, cb 34, ⟨1, false, .ints .u64 l⟩, cb 36, cb 37, cb 38, cb 39, cb 40, cb 41, cb 42, cb 43, cb 44, cb 45, cb 46, cb 47, cb 48, cb 49, cb 50, cb 51, cb 52, cb 53, cb 54, cb 55, cb 56, cb 57, cb 58, cb 59, cb 60, cb 61, cb 62, cb 63, cb 64, cb 65, cb 66, cb 67, cb 68, cb 69, cb 70, cb 71, cb 72, cb 73, cb 74, cb 75, cb 76, cb 77, cb 78, cb 79, cb 80, cb 81, cb 82, cb 83, cb 84, cb 85, cb 86, cb 87, cb 88, cb 89, cb 90, cb 91, cb 92, cb 93, cb 94, cb 95, cb 96, cb 97, cb 98, cb 99, cb 100, cb 101, cb 102, cb 103])) (P' := (fun cb => [cb 0, cb 1, cb 2, cb 3, cb 4, cb 5, cb 6, cb 7, cb 8, cb 9, cb 10, cb 11, cb 12, cb 13, cb 14, cb 15, cb 16, cb 17, cb 18, cb 19, cb 20, cb 21, cb 22, cb 23, cb 24, cb 25, cb 26, cb 27, cb 28, cb 29, cb 30, cb 31, cb 32, cb 33, cb 34, ⟨1, false, .ints .u64 aa⟩, cb 36, cb 37, cb 38, cb 39, cb 40, cb 41, cb 42, cb 43, cb 44, cb 45, cb 46, cb 47, cb 48, cb 49, cb 50, cb 51, cb 52, cb 53, cb 54, cb 55, cb 56, cb 57, cb 58, cb 59, cb 60, cb 61, cb 62, cb 63, cb 64, cb 65, cb 66, cb 67, cb 68, cb 69, cb 70, cb 71, cb 72, cb 73, cb 74, cb 75, cb 76, cb 77, cb 78, cb 79, cb 80, cb 81, cb 82, cb 83, cb 84, cb 85, cb 86, cb 87, cb 88, cb 89, cb 90, cb 91, cb 92, cb 93, cb 94, cb 95, cb 96, cb 97, cb 98, cb 99, cb 100, cb 101, cb 102, cb 103])) (by kernel_rfl) (by kernel_rfl) (by kernel_rfl) (fun cb => bi cb _ _ aw) ?_
  refine W.adv 2 ?_
  rcases H with ⟨a6, H⟩ | ⟨a6, H⟩
  ·refine W.cb true af a6 ?_
   refine W.adv 4 (W.opS (O.ixR .i64 51 1 1 p a al (by rw [ar]; exact a4)) ?_)
   refine W.opS (OpIs.ldI (b := 51) (v := 1) (i := (a).toNat) (w := 1) (fz := false) (k := .u64) (xs := q) (by kernel_rfl) rfl (by omega)) ?_
   refine W.adv 1 (W.opS (O.ixR .i64 51 1 1 p a al (by rw [ar]; exact a4)) ?_)
   obtain ⟨aq, ba, H⟩ := H
   have bk : p = aq.length := by rw [ba, List.length_set] <;> exact ar
   refine W.opH (OpIs.stN (b := 51) (v := 1) (i := (a).toNat) (w := 1) (k := .u64) (xs := q) (n := (wu ((q.getD (a).toNat 0) - 1))) (by kernel_rfl) ba rfl (by omega)) ?_
   refine W.adv 6 ?_
   obtain ⟨ag, bl, bm, H⟩ := H
   have bn : s = ag.length := by rw [bl]; exact a5
   refine W.sharedP (g := 222) (ds := [.sref 35 1 1 0 s, .int .i64 a, .ints .u64 f]) (d := (.tuple [])) (P := (fun cb => [cb 0, cb 1, cb 2, cb 3, cb 4, cb 5, cb 6, cb 7, cb 8, cb 9, cb 10, cb 11, cb 12, cb 13, cb 14, cb 15, cb 16, cb 17, cb 18, cb 19, cb 20, cb 21, cb 22, cb 23, cb 24, cb 25, cb 26, cb 27, cb 28, cb 29, cb 30, cb 31, cb 32, cb 33, cb 34, ⟨1, false, .ints .u64 aa⟩, cb 36, cb 37, cb 38, cb 39, cb 40, cb 41, cb 42, cb 43, cb 44, cb 45, cb 46, cb 47, cb 48, cb 49, cb 50, cb 51, cb 52, cb 53, cb 54, cb 55, cb 56, cb 57, cb 58, cb 59, cb 60, cb 61, cb 62, cb 63, cb 64, cb 65, cb 66, cb 67, cb 68, cb 69, cb 70, cb 71, cb 72, cb 73, cb 74, cb 75, cb 76, cb 77, cb 78, cb 79, cb 80, cb 81, cb 82, cb 83, cb 84, cb 85, cb 86, cb 87, cb 88, cb 89, cb 90, cb 91, cb 92, cb 93, cb 94, cb 95, cb 96, cb 97, cb 98, cb 99, cb 100, cb 101, cb 102, cb 103])) (P' := (fun cb => [cb 0, cb 1, cb 2, cb 3, cb 4, cb 5, cb 6, cb 7, cb 8, cb 9, cb 10, cb 11, cb 12, cb 13, cb 14, cb 15, cb 16, cb 17, cb 18, cb 19, cb 20, cb 21, cb 22, cb 23, cb 24, cb 25, cb 26, cb 27, cb 28, cb 29, cb 30, cb 31, cb 32, cb 33, cb 34, ⟨1, false, .ints .u64 ag⟩, cb 36, cb 37, cb 38, cb 39, cb 40, cb 41, cb 42, cb 43, cb 44, cb 45, cb 46, cb 47, cb 48, cb 49, cb 50, cb 51, cb 52, cb 53, cb 54, cb 55, cb 56, cb 57, cb 58, cb 59, cb 60, cb 61, cb 62, cb 63, cb 64, cb 65, cb 66, cb 67, cb 68, cb 69, cb 70, cb 71, cb 72, cb 73, cb 74, cb 75, cb 76, cb 77, cb 78, cb 79, cb 80, cb 81, cb 82, cb 83, cb 84, cb 85, cb 86, cb 87, cb 88, cb 89, cb 90, cb 91, cb 92, cb 93, cb 94, cb 95, cb 96, cb 97, cb 98, cb 99, cb 100, cb 101, cb 102, cb 103])) (by kernel_rfl) (by kernel_rfl) (by kernel_rfl) (fun cb => bm cb _ _ a5) ?_
   exact W.adv 9 (W.tl (H _ bn _ bk))
  ·refine W.cb false af (bfalse a6) ?_
   exact W.adv 9 (W.tl (H _ a5 _ ar))
 ·refine W.cf (0 ≤ a) al ?_
  refine W.adv 8 ?_
  obtain ⟨ai, ay, bp, H⟩ := H
  refine W.callR (g := 180) (ds := [.sref 51 1 1 0 p]) (es := [.ints .u64 u]) (r := (.tuple [.ints .u64 ai, .int .i64 ay])) (by kernel_rfl) (rf_cons (rf_full (b := 51) (v := 1) (w := 1) (fz := false) (k := .u64) (xs := u) (by kernel_rfl) rfl a3) rf_nil) (Ic.args bp (by kernel_rfl)) (by kernel_rfl) ?_
  refine W.adv 10 ?_
  obtain ⟨am, az, bq, H⟩ := H
  refine W.callR (g := 180) (ds := [.sref 35 1 1 0 s]) (es := [.ints .u64 l]) (r := (.tuple [.ints .u64 am, .int .i64 az])) (by kernel_rfl) (rf_cons (rf_full (b := 35) (v := 1) (w := 1) (fz := false) (k := .u64) (xs := l) (by kernel_rfl) rfl aw) rf_nil) (Ic.args bq (by kernel_rfl)) (by kernel_rfl) ?_
  refine W.adv 11 ?_
  obtain ⟨ak, a2, br, H⟩ := H
  refine W.cl 223 [.ints .u64 am, .int .i64 t] (.tuple [.ints .u64 ak, .int .i64 a2]) br ?_
  exact W.adv 15 (W.fr (Ans.o (.tuple [.ints .u64 ai, .ints .u64 ak]) (by rw [H.1, H.2])))
theorem divide_knuth_go (H : 0 ≤ (wi ((c.length : Int) - 1)) ∧ (wi ((c.length : Int) - 1)) < (c.length : Int) ∧ ∃ z, limb_Bits_R (c.getD (wi ((c.length : Int) - 1)).toNat 0) z ∧ ∃ au a7, nat_Shl_R c (wi (32 - z)) au a7 ∧ 0 ≤ (wi ((e.length : Int) + 1)) ∧ 8 * (wi ((e.length : Int) + 1)) ≤ 140737488351232 ∧ ∃ ad, ad = List.replicate (wi ((e.length : Int) + 1)).toNat 0 ∧ ∃ ae a8, nat_Shl_R e (wi (32 - z)) ae a8 ∧ ∃ an, an = ad.take 0 ++ (ae.take (min ae.length ad.length) ++ ad.drop (0 + min ae.length ad.length)) ∧ 0 ≤ (wi ((wi ((e.length : Int) - (c.length : Int))) + 1)) ∧ 8 * (wi ((wi ((e.length : Int) - (c.length : Int))) + 1)) ≤ 140737488351232 ∧ ∃ av, av = List.replicate (wi ((wi ((e.length : Int) - (c.length : Int))) + 1)).toNat 0 ∧ divide_knuth_l0 (wi (32 - z)) au (wi ((e.length : Int) - (c.length : Int))) an av ab ac) : divide_knuth_R e c ab ac := by
 refine W.ii Tryz.func213 ?_
 refine W.adv 12 ?_
 obtain ⟨bs, bt, H⟩ := H
 refine W.opS (O.ixI .u64 .i64 c (wi ((c.length : Int) - 1)) bs bt) ?_
 refine W.adv 1 ?_
 obtain ⟨z, bu, H⟩ := H
 refine W.cl 218 [(.int .u64 (c.getD (wi ((c.length : Int) - 1)).toNat 0))] (.int .i64 z) bu ?_
 refine W.adv 8 ?_
 obtain ⟨au, a7, bv, H⟩ := H
 refine W.cl 219 [.ints .u64 c, (.int .i64 (wi (32 - z)))] (.tuple [.ints .u64 au, .int .i64 a7]) bv ?_
 refine W.adv 12 ?_
 obtain ⟨bw, bz, H⟩ := H
 obtain ⟨ad, bb, H⟩ := H
 have b0 : (wi ((e.length : Int) + 1)).toNat = ad.length := by rw [bb, List.length_replicate]
 refine W.opH (OpIs.msN (k1 := .i64) (k2 := .i64) (k := .u64) (n := (wi ((e.length : Int) + 1))) (m := (wi ((e.length : Int) + 1))) (y := 8) (b := 35) (v := 0) (by kernel_rfl) bb bw (Int.le_refl _) bz (by omega)) ?_
 refine W.adv 7 ?_
 obtain ⟨ae, a8, b1, H⟩ := H
 refine W.cl 219 [.ints .u64 e, (.int .i64 (wi (32 - z)))] (.tuple [.ints .u64 ae, .int .i64 a8]) b1 ?_
 refine W.adv 11 ?_
 obtain ⟨an, bc, H⟩ := H
 have b2 : (wi ((e.length : Int) + 1)).toNat = an.length := by rw [bc, List.length_append, List.length_append, List.length_take, List.length_take, List.length_drop]; omega
 refine W.opH (OpIs.cp (zs := an) (y := (.ints .u64 ae)) (b := 35) (v := 1) (w := 1) (off := 0) (len := (wi ((e.length : Int) + 1)).toNat) (k := .u64) (xs := ad) (ys := ae) (by kernel_rfl) (by kernel_rfl) rfl (by omega) (by rw [b0]; exact bc)) ?_
 refine W.adv 10 ?_
 obtain ⟨b3, b4, H⟩ := H
 obtain ⟨av, bd, H⟩ := H
 have b5 : (wi ((wi ((e.length : Int) - (c.length : Int))) + 1)).toNat = av.length := by rw [bd, List.length_replicate]
 refine W.opH (OpIs.msN (k1 := .i64) (k2 := .i64) (k := .u64) (n := (wi ((wi ((e.length : Int) - (c.length : Int))) + 1))) (m := (wi ((wi ((e.length : Int) - (c.length : Int))) + 1))) (y := 8) (b := 51) (v := 0) (by kernel_rfl) bd b3 (Int.le_refl _) b4 (by omega)) ?_
 exact W.adv 15 (W.tl (P := divide_knuth_l0_s (wi (32 - z)) au (wi ((e.length : Int) - (c.length : Int))) an av ((wi ((e.length : Int) + 1)).toNat) ((wi ((wi ((e.length : Int) - (c.length : Int))) + 1)).toNat)) (H _ b2 _ b5))
end
section
variable (p : List Int) (m : Int) (g : List Int) (c a l : Int) (q : List Int) (n : Int) (f : List Int) (z : Int)
noncomputable def divide_guess_l0_s (j : Nat → D) (jb : Nat → Blk) (vs : Nat → Nat) : Cf := cfAt Tryz.f220 [1, 1, 1, 1, 0, 0] ⟨([.ints .u64 p, .int .i64 m, .ints .u64 g] ++ (J j 3 4 ++ ([.int .i64 c, j 8, .int .u64 a, .int .u64 l] ++ J j 11 65))), (J jb 0 76)⟩
def divide_guess_l0 : Prop := ∀ j jb vs, W C F 220 0 (divide_guess_l0_s p m g c a l  j jb vs) (Ans C Tryz.f220 (.int .u64 z))
variable {p m g c a l q n f z}
theorem divide_guess_l0_go (H : 4294967296 ≤ a ∧ 0 ≤ (wi (c - 1)) ∧ (wi (c - 1)) < (g.length : Int) ∧ (4294967296 ≤ (wu (l + (g.getD (wi (c - 1)).toNat 0))) ∧ (z = (wu (a - 1))) ∨ ¬ 4294967296 ≤ (wu (l + (g.getD (wi (c - 1)).toNat 0))) ∧ divide_guess_l0 p m g c (wu (a - 1)) (wu (l + (g.getD (wi (c - 1)).toNat 0))) z) ∨ ¬ 4294967296 ≤ a ∧ 0 ≤ (wi (c - 2)) ∧ (wi (c - 2)) < (g.length : Int) ∧ 0 ≤ (wi ((wi (m + c)) - 2)) ∧ (wi ((wi (m + c)) - 2)) < (p.length : Int) ∧ ∃ s, s = (bits .or .u64 (wu (l * 2 ^ 32)) (p.getD (wi ((wi (m + c)) - 2)).toNat 0)) ∧ (s < (wu (a * (g.getD (wi (c - 2)).toNat 0))) ∧ 0 ≤ (wi (c - 1)) ∧ (wi (c - 1)) < (g.length : Int) ∧ (4294967296 ≤ (wu (l + (g.getD (wi (c - 1)).toNat 0))) ∧ (z = (wu (a - 1))) ∨ ¬ 4294967296 ≤ (wu (l + (g.getD (wi (c - 1)).toNat 0))) ∧ divide_guess_l0 p m g c (wu (a - 1)) (wu (l + (g.getD (wi (c - 1)).toNat 0))) z) ∨ ¬ s < (wu (a * (g.getD (wi (c - 2)).toNat 0))) ∧ (z = a))) : divide_guess_l0 p m g c a l z := by
 intro j jb vs
 refine W.adv 1 (W.adv 6 ?_)
 rcases H with ⟨e, H⟩ | ⟨e, H⟩
 ·refine W.gt' (4294967296 ≤ a) e ?_
  refine W.gt' (4294967296 ≤ a) e ?_
  refine W.gt' (4294967296 ≤ a) e ?_
  refine W.gt' (4294967296 ≤ a) e ?_
  refine W.gt' (4294967296 ≤ a) e ?_
  refine W.gt' (4294967296 ≤ a) e ?_
  refine W.gt' (4294967296 ≤ a) e ?_
  refine W.gt' (4294967296 ≤ a) e ?_
  refine W.gt' (4294967296 ≤ a) e ?_
  refine W.gt' (4294967296 ≤ a) e ?_
  refine W.gt' (4294967296 ≤ a) e ?_
  refine W.gt' (4294967296 ≤ a) e ?_
  refine W.gt' (4294967296 ≤ a) e ?_
  refine W.gt' (4294967296 ≤ a) e ?_
  refine W.gt' (4294967296 ≤ a) e ?_
  refine W.gt' (4294967296 ≤ a) e ?_
  refine W.gt' (4294967296 ≤ a) e ?_
  refine W.gt' (4294967296 ≤ a) e ?_
  refine W.opS (O.pk (decide (4294967296 ≤ a)) true (.bool true) (.tuple []) (decide_eq_true e)) ?_
  refine W.adv 19 ?_
  obtain ⟨ae, af, H⟩ := H
  refine W.opS (O.ixI .u64 .i64 g (wi (c - 1)) ae af) ?_
  refine W.adv 11 ?_
  rcases H with ⟨u, H⟩ | ⟨u, H⟩
  ·refine W.ct (4294967296 ≤ (wu (l + (g.getD (wi (c - 1)).toNat 0)))) u ?_
   exact W.adv 12 (W.fr (Ans.o (.int .u64 (wu (a - 1))) (by rw [H])))
  ·refine W.cf (4294967296 ≤ (wu (l + (g.getD (wi (c - 1)).toNat 0)))) u ?_
   exact W.adv 3 (W.tl (P := divide_guess_l0_s p m g c (wu (a - 1)) (wu (l + (g.getD (wi (c - 1)).toNat 0)))) H)
 ·refine W.gf' (4294967296 ≤ a) e ?_
  refine W.adv 1 (W.gf' (4294967296 ≤ a) e ?_)
  refine W.adv 1 (W.gf' (4294967296 ≤ a) e ?_)
  refine W.adv 1 (W.gf' (4294967296 ≤ a) e ?_)
  refine W.adv 1 (W.gf' (4294967296 ≤ a) e ?_)
  obtain ⟨ag, ai, H⟩ := H
  refine W.opS (O.ixI .u64 .i64 g (wi (c - 2)) ag ai) ?_
  refine W.gf' (4294967296 ≤ a) e ?_
  refine W.adv 1 (W.gf' (4294967296 ≤ a) e ?_)
  refine W.adv 1 (W.gf' (4294967296 ≤ a) e ?_)
  refine W.adv 1 (W.gf' (4294967296 ≤ a) e ?_)
  refine W.adv 1 (W.gf' (4294967296 ≤ a) e ?_)
  refine W.adv 1 (W.gf' (4294967296 ≤ a) e ?_)
  refine W.adv 1 (W.gf' (4294967296 ≤ a) e ?_)
  refine W.adv 1 (W.gf' (4294967296 ≤ a) e ?_)
  refine W.adv 1 (W.gf' (4294967296 ≤ a) e ?_)
  refine W.adv 1 (W.gf' (4294967296 ≤ a) e ?_)
  obtain ⟨ak, al, H⟩ := H
  refine W.opS (O.ixI .u64 .i64 p (wi ((wi (m + c)) - 2)) ak al) ?_
  refine W.gf' (4294967296 ≤ a) e ?_
  refine W.adv 1 (W.gf' (4294967296 ≤ a) e ?_)
  obtain ⟨s, am, H⟩ := H
  refine W.opS (OpIs.bnN (k := .u64) (op := .or) (x := (.int .u64 (wu (l * 2 ^ 32)))) (y := (.int .u64 (p.getD (wi ((wi (m + c)) - 2)).toNat 0))) (by kernel_rfl) am (by kernel_rfl)) ?_
  refine W.gf' (4294967296 ≤ a) e ?_
  refine W.adv 1 (W.opS (O.pk (decide (4294967296 ≤ a)) false (.bool true) (.bool (decide (s < (wu (a * (g.getD (wi (c - 2)).toNat 0)))))) (decide_eq_false e)) ?_)
  refine W.adv 2 ?_
  rcases H with ⟨v, H⟩ | ⟨v, H⟩
  ·refine W.ct (s < (wu (a * (g.getD (wi (c - 2)).toNat 0)))) v ?_
   refine W.adv 16 ?_
   obtain ⟨an, ap, H⟩ := H
   refine W.opS (O.ixI .u64 .i64 g (wi (c - 1)) an ap) ?_
   refine W.adv 11 ?_
   rcases H with ⟨aa, H⟩ | ⟨aa, H⟩
   ·refine W.ct (4294967296 ≤ (wu (l + (g.getD (wi (c - 1)).toNat 0)))) aa ?_
    exact W.adv 12 (W.fr (Ans.o (.int .u64 (wu (a - 1))) (by rw [H])))
   ·refine W.cf (4294967296 ≤ (wu (l + (g.getD (wi (c - 1)).toNat 0)))) aa ?_
    exact W.adv 3 (W.tl (P := divide_guess_l0_s p m g c (wu (a - 1)) (wu (l + (g.getD (wi (c - 1)).toNat 0)))) H)
  ·refine W.cf (s < (wu (a * (g.getD (wi (c - 2)).toNat 0)))) v ?_
   exact W.adv 12 (W.fr (Ans.o (.int .u64 a) (by rw [H])))
theorem divide_guess_go (H : 0 ≤ (wi (n + (f.length : Int))) ∧ (wi (n + (f.length : Int))) < (q.length : Int) ∧ 0 ≤ (wi ((wi (n + (f.length : Int))) - 1)) ∧ (wi ((wi (n + (f.length : Int))) - 1)) < (q.length : Int) ∧ ∃ r, r = (bits .or .u64 (wu ((q.getD (wi (n + (f.length : Int))).toNat 0) * 2 ^ 32)) (q.getD (wi ((wi (n + (f.length : Int))) - 1)).toNat 0)) ∧ 0 ≤ (wi ((f.length : Int) - 1)) ∧ (wi ((f.length : Int) - 1)) < (f.length : Int) ∧ (f.getD (wi ((f.length : Int) - 1)).toNat 0) ≠ 0 ∧ divide_guess_l0 q n f (f.length : Int) (wu (r.tdiv (f.getD (wi ((f.length : Int) - 1)).toNat 0))) (r.tmod (f.getD (wi ((f.length : Int) - 1)).toNat 0)) z) : divide_guess_R q n f z := by
 refine W.ii Tryz.func220 ?_
 refine W.adv 18 ?_
 obtain ⟨aq, ar, H⟩ := H
 refine W.opS (O.ixI .u64 .i64 q (wi (n + (f.length : Int))) aq ar) ?_
 refine W.adv 7 ?_
 obtain ⟨au, av, H⟩ := H
 refine W.opS (O.ixI .u64 .i64 q (wi ((wi (n + (f.length : Int))) - 1)) au av) ?_
 refine W.adv 1 ?_
 obtain ⟨r, aw, H⟩ := H
 refine W.opS (OpIs.bnN (k := .u64) (op := .or) (x := (.int .u64 (wu ((q.getD (wi (n + (f.length : Int))).toNat 0) * 2 ^ 32)))) (y := (.int .u64 (q.getD (wi ((wi (n + (f.length : Int))) - 1)).toNat 0))) (by kernel_rfl) aw (by kernel_rfl)) ?_
 refine W.adv 9 ?_
 obtain ⟨ab, ac, H⟩ := H
 refine W.opS (O.ixI .u64 .i64 f (wi ((f.length : Int) - 1)) ab ac) ?_
 refine W.adv 1 ?_
 obtain ⟨ad, H⟩ := H
 refine W.opS (OpIs.bn (op := .quo) (x := (.int .u64 r)) (y := (.int .u64 (f.getD (wi ((f.length : Int) - 1)).toNat 0))) (by kernel_rfl) (quoD ad)) ?_
 refine W.adv 4 (W.opS (O.ixI .u64 .i64 f (wi ((f.length : Int) - 1)) ab ac) ?_)
 refine W.adv 1 (W.opS (OpIs.bn (op := .rem) (x := (.int .u64 r)) (y := (.int .u64 (f.getD (wi ((f.length : Int) - 1)).toNat 0))) (by kernel_rfl) (remD ad)) ?_)
 exact W.adv 6 (W.tl (P := divide_guess_l0_s q n f (f.length : Int) (wu (r.tdiv (f.getD (wi ((f.length : Int) - 1)).toNat 0))) (r.tmod (f.getD (wi ((f.length : Int) - 1)).toNat 0))) H)
end
theorem divide_at_go {b : List Int} {a z : Int} (H : (b.length : Int) ≤ a ∧ (z = 0) ∨ ¬ (b.length : Int) ≤ a ∧ 0 ≤ a ∧ a < (b.length : Int) ∧ (z = (b.getD (a).toNat 0))) : divide_at_R b a z := by
 refine W.ii Tryz.func225 ?_
 refine W.adv 14 ?_
 rcases H with ⟨c, H⟩ | ⟨c, H⟩
 ·refine W.ct ((b.length : Int) ≤ a) c ?_
  exact W.adv 7 (W.fr (Ans.o (.int .u64 0) (by rw [H])))
 ·refine W.cf ((b.length : Int) ≤ a) c ?_
  refine W.adv 6 ?_
  obtain ⟨e, f, H⟩ := H
  refine W.opS (O.ixI .u64 .i64 b a e f) ?_
  exact W.adv 5 (W.fr (Ans.o (.int .u64 (b.getD (a).toNat 0)) (by rw [H])))
noncomputable def divide_take_l0_s (cb : Nat → Blk) (ver : Nat) (c : Int) (f : List Int) (l q m e a : Int) (d : List Int) (p : Nat) (j : Nat → D) (jb : Nat → Blk) (vs : Nat → Nat) : Cf := cfAt Tryz.f221 [1, 1, 0, 1, 0] ⟨([.sref 35 ver 1 0 p, .int .i64 c, .ints .u64 f, .int .u64 l] ++ (J j 4 5 ++ ([.int .u64 q, .int .u64 m] ++ (J j 11 4 ++ ([.int .i64 e, .int .i64 a] ++ J j 17 31))))), (J cb 0 35 ++ ([⟨ver, false, .ints .u64 d⟩] ++ (J cb 36 68 ++ [noBlk, noBlk, noBlk, noBlk, noBlk, noBlk, noBlk, noBlk, noBlk, noBlk, noBlk, noBlk, noBlk, noBlk, noBlk, noBlk, noBlk, noBlk, noBlk, noBlk, noBlk, noBlk, noBlk, noBlk, noBlk, noBlk, noBlk, noBlk, noBlk, noBlk, noBlk, noBlk, noBlk, noBlk, noBlk, noBlk, noBlk, noBlk, noBlk, noBlk, noBlk, noBlk, noBlk, noBlk, noBlk, noBlk, noBlk, noBlk])))⟩
def divide_take_l0 (cb : Nat → Blk) (ver : Nat) (c : Int) (f : List Int) (l q m e a : Int) (d : List Int) (z : Bool) (ys : List Int) : Prop := ∀ p, p = d.length → ∀ j jb vs, W C F 221 104 (divide_take_l0_s cb ver c f l q m e a d p j jb vs) (SAns C Tryz.f221 104 (.bool z) [cb 0, cb 1, cb 2, cb 3, cb 4, cb 5, cb 6, cb 7, cb 8, cb 9, cb 10, cb 11, cb 12, cb 13, cb 14, cb 15, cb 16, cb 17, cb 18, cb 19, cb 20, cb 21, cb 22, cb 23, cb 24, cb 25, cb 26, cb 27, cb 28, cb 29, cb 30, cb 31, cb 32, cb 33, cb 34, ⟨ver, false, .ints .u64 ys⟩, cb 36, cb 37, cb 38, cb 39, cb 40, cb 41, cb 42, cb 43, cb 44, cb 45, cb 46, cb 47, cb 48, cb 49, cb 50, cb 51, cb 52, cb 53, cb 54, cb 55, cb 56, cb 57, cb 58, cb 59, cb 60, cb 61, cb 62, cb 63, cb 64, cb 65, cb 66, cb 67, cb 68, cb 69, cb 70, cb 71, cb 72, cb 73, cb 74, cb 75, cb 76, cb 77, cb 78, cb 79, cb 80, cb 81, cb 82, cb 83, cb 84, cb 85, cb 86, cb 87, cb 88, cb 89, cb 90, cb 91, cb 92, cb 93, cb 94, cb 95, cb 96, cb 97, cb 98, cb 99, cb 100, cb 101, cb 102, cb 103])
theorem divide_take_l0_go {cb : Nat → Blk} {ver : Nat} {c : Int} {f : List Int} {l q m e a : Int} {d : List Int} {z : Bool} {ys : List Int} (H : (a < e ∧ ∃ s, divide_at_R f a s ∧ ∃ t u, limb_Mul_R l s q 0 t u ∧ 0 ≤ (wi (c + a)) ∧ (wi (c + a)) < (d.length : Int) ∧ ∃ y aa, limb_Sub_R (d.getD (wi (c + a)).toNat 0) t m y aa ∧ ∃ ab, ab = d.set (wi (c + a)).toNat y ∧ divide_take_l0 cb ver c f l u aa e (wi (a + 1)) ab z ys) ∨ ¬ a < e ∧ z = (decide (0 < m)) ∧ ys = d) : divide_take_l0 cb ver c f l q m e a d z ys := by
 intro p ad j jb vs
 refine W.adv 1 (W.adv 6 ?_)
 rcases H with ⟨ae, H⟩ | ⟨ae, H⟩
 ·refine W.ct (a < e) ae ?_
  refine W.adv 20 ?_
  obtain ⟨s, am, H⟩ := H
  refine W.cl 225 [.ints .u64 f, .int .i64 a] (.int .u64 s) am ?_
  refine W.adv 1 ?_
  obtain ⟨t, u, an, H⟩ := H
  refine W.cl 214 [.int .u64 l, .int .u64 s, .int .u64 q, .int .u64 0] (.tuple [.int .u64 t, .int .u64 u]) an ?_
  refine W.adv 16 ?_
  obtain ⟨ai, ak, H⟩ := H
  refine W.opS (O.ixR .i64 35 ver 1 p (wi (c + a)) ai (by rw [ad]; exact ak)) ?_
  refine W.opS (OpIs.ldI (b := 35) (v := ver) (i := (wi (c + a)).toNat) (w := ver) (fz := false) (k := .u64) (xs := d) (by kernel_rfl) rfl (by omega)) ?_
  refine W.adv 2 ?_
  obtain ⟨y, aa, ap, H⟩ := H
  refine W.cl 186 [(.int .u64 (d.getD (wi (c + a)).toNat 0)), .int .u64 t, .int .u64 m] (.tuple [.int .u64 y, .int .u64 aa]) ap ?_
  refine W.adv 3 (W.opS (O.ixR .i64 35 ver 1 p (wi (c + a)) ai (by rw [ad]; exact ak)) ?_)
  obtain ⟨ab, al, H⟩ := H
  have aq : p = ab.length := by rw [al, List.length_set] <;> exact ad
  refine W.opH (OpIs.stN (b := 35) (v := ver) (i := (wi (c + a)).toNat) (w := ver) (k := .u64) (xs := d) (n := y) (by kernel_rfl) al rfl (by omega)) ?_
  exact W.adv 9 (W.tl (H _ aq))
 ·refine W.cf (a < e) ae ?_
  exact W.adv 13 (W.fr (SAns.of (d0 := (.bool (decide (0 < m)))) (h0 := [cb 0, cb 1, cb 2, cb 3, cb 4, cb 5, cb 6, cb 7, cb 8, cb 9, cb 10, cb 11, cb 12, cb 13, cb 14, cb 15, cb 16, cb 17, cb 18, cb 19, cb 20, cb 21, cb 22, cb 23, cb 24, cb 25, cb 26, cb 27, cb 28, cb 29, cb 30, cb 31, cb 32, cb 33, cb 34, ⟨ver, false, .ints .u64 d⟩, cb 36, cb 37, cb 38, cb 39, cb 40, cb 41, cb 42, cb 43, cb 44, cb 45, cb 46, cb 47, cb 48, cb 49, cb 50, cb 51, cb 52, cb 53, cb 54, cb 55, cb 56, cb 57, cb 58, cb 59, cb 60, cb 61, cb 62, cb 63, cb 64, cb 65, cb 66, cb 67, cb 68, cb 69, cb 70, cb 71, cb 72, cb 73, cb 74, cb 75, cb 76, cb 77, cb 78, cb 79, cb 80, cb 81, cb 82, cb 83, cb 84, cb 85, cb 86, cb 87, cb 88, cb 89, cb 90, cb 91, cb 92, cb 93, cb 94, cb 95, cb 96, cb 97, cb 98, cb 99, cb 100, cb 101, cb 102, cb 103]) (by kernel_rfl) (by rw [H.1]) (by kernel_rfl) (by rw [H.2])))
theorem divide_take_go {xs : List Int} {af : Int} {ac : List Int} {ag : Int} {z : Bool} {ys : List Int} (H : ∀ (cb : Nat → Blk) (ver : Nat), (divide_take_l0 cb ver af ac ag 0 0 (wi ((ac.length : Int) + 1)) 0 xs z ys)) : divide_take_R xs af ac ag z ys := by
 intro cb ver n ln
 replace H := H cb ver
 refine W.sc (n := 104) Tryz.func221 (by kernel_rfl) (by kernel_rfl) (by kernel_rfl) (by kernel_rfl) ?_
 exact W.adv 21 (W.tl (P := divide_take_l0_s cb ver af ac ag 0 0 (wi ((ac.length : Int) + 1)) 0 xs n) (H _ ln))
noncomputable def divide_give_l0_s (cb : Nat → Blk) (ver : Nat) (c : Int) (f : List Int) (m e a : Int) (d : List Int) (l : Nat) (j : Nat → D) (jb : Nat → Blk) (vs : Nat → Nat) : Cf := cfAt Tryz.f222 [1, 1, 0] ⟨([.sref 35 ver 1 0 l, .int .i64 c, .ints .u64 f, j 3, j 4, j 5, .int .u64 m, j 7, j 8, j 9, .int .i64 e, .int .i64 a] ++ J j 12 22), (J cb 0 35 ++ ([⟨ver, false, .ints .u64 d⟩] ++ (J cb 36 68 ++ [noBlk, noBlk, noBlk, noBlk, noBlk, noBlk, noBlk, noBlk, noBlk, noBlk, noBlk, noBlk, noBlk, noBlk, noBlk, noBlk, noBlk, noBlk, noBlk, noBlk, noBlk, noBlk, noBlk, noBlk, noBlk, noBlk, noBlk, noBlk, noBlk, noBlk, noBlk, noBlk, noBlk, noBlk])))⟩
def divide_give_l0 (cb : Nat → Blk) (ver : Nat) (c : Int) (f : List Int) (m e a : Int) (d ys : List Int) : Prop := ∀ l, l = d.length → ∀ j jb vs, W C F 222 104 (divide_give_l0_s cb ver c f m e a d l j jb vs) (SAns C Tryz.f222 104 (.tuple []) [cb 0, cb 1, cb 2, cb 3, cb 4, cb 5, cb 6, cb 7, cb 8, cb 9, cb 10, cb 11, cb 12, cb 13, cb 14, cb 15, cb 16, cb 17, cb 18, cb 19, cb 20, cb 21, cb 22, cb 23, cb 24, cb 25, cb 26, cb 27, cb 28, cb 29, cb 30, cb 31, cb 32, cb 33, cb 34, ⟨ver, false, .ints .u64 ys⟩, cb 36, cb 37, cb 38, cb 39, cb 40, cb 41, cb 42, cb 43, cb 44, cb 45, cb 46, cb 47, cb 48, cb 49, cb 50, cb 51, cb 52, cb 53, cb 54, cb 55, cb 56, cb 57, cb 58, cb 59, cb 60, cb 61, cb 62, cb 63, cb 64, cb 65, cb 66, cb 67, cb 68, cb 69, cb 70, cb 71, cb 72, cb 73, cb 74, cb 75, cb 76, cb 77, cb 78, cb 79, cb 80, cb 81, cb 82, cb 83, cb 84, cb 85, cb 86, cb 87, cb 88, cb 89, cb 90, cb 91, cb 92, cb 93, cb 94, cb 95, cb 96, cb 97, cb 98, cb 99, cb 100, cb 101, cb 102, cb 103])
theorem divide_give_l0_go {cb : Nat → Blk} {ver : Nat} {c : Int} {f : List Int} {m e a : Int} {d ys : List Int} (H : (a < e ∧ 0 ≤ (wi (c + a)) ∧ (wi (c + a)) < (d.length : Int) ∧ ∃ p, divide_at_R f a p ∧ ∃ q s, limb_Add_R (d.getD (wi (c + a)).toNat 0) p m q s ∧ ∃ t, t = d.set (wi (c + a)).toNat q ∧ divide_give_l0 cb ver c f s e (wi (a + 1)) t ys) ∨ ¬ a < e ∧ (ys = d)) : divide_give_l0 cb ver c f m e a d ys := by
 intro l y j jb vs
 refine W.adv 1 (W.adv 6 ?_)
 rcases H with ⟨z, H⟩ | ⟨z, H⟩
 ·refine W.ct (a < e) z ?_
  refine W.adv 19 ?_
  obtain ⟨ab, ac, H⟩ := H
  refine W.opS (O.ixR .i64 35 ver 1 l (wi (c + a)) ab (by rw [y]; exact ac)) ?_
  refine W.opS (OpIs.ldI (b := 35) (v := ver) (i := (wi (c + a)).toNat) (w := ver) (fz := false) (k := .u64) (xs := d) (by kernel_rfl) rfl (by omega)) ?_
  refine W.adv 2 ?_
  obtain ⟨p, ae, H⟩ := H
  refine W.cl 225 [.ints .u64 f, .int .i64 a] (.int .u64 p) ae ?_
  refine W.adv 1 ?_
  obtain ⟨q, s, af, H⟩ := H
  refine W.cl 181 [(.int .u64 (d.getD (wi (c + a)).toNat 0)), .int .u64 p, .int .u64 m] (.tuple [.int .u64 q, .int .u64 s]) af ?_
  refine W.adv 3 (W.opS (O.ixR .i64 35 ver 1 l (wi (c + a)) ab (by rw [y]; exact ac)) ?_)
  obtain ⟨t, ad, H⟩ := H
  have ag : l = t.length := by rw [ad, List.length_set] <;> exact y
  refine W.opH (OpIs.stN (b := 35) (v := ver) (i := (wi (c + a)).toNat) (w := ver) (k := .u64) (xs := d) (n := q) (by kernel_rfl) ad rfl (by omega)) ?_
  exact W.adv 9 (W.tl (H _ ag))
 ·refine W.cf (a < e) z ?_
  exact W.adv 4 (W.fin (x := .normal) (by kernel_rfl) (SAns.of (d0 := (.tuple [])) (h0 := [cb 0, cb 1, cb 2, cb 3, cb 4, cb 5, cb 6, cb 7, cb 8, cb 9, cb 10, cb 11, cb 12, cb 13, cb 14, cb 15, cb 16, cb 17, cb 18, cb 19, cb 20, cb 21, cb 22, cb 23, cb 24, cb 25, cb 26, cb 27, cb 28, cb 29, cb 30, cb 31, cb 32, cb 33, cb 34, ⟨ver, false, .ints .u64 d⟩, cb 36, cb 37, cb 38, cb 39, cb 40, cb 41, cb 42, cb 43, cb 44, cb 45, cb 46, cb 47, cb 48, cb 49, cb 50, cb 51, cb 52, cb 53, cb 54, cb 55, cb 56, cb 57, cb 58, cb 59, cb 60, cb 61, cb 62, cb 63, cb 64, cb 65, cb 66, cb 67, cb 68, cb 69, cb 70, cb 71, cb 72, cb 73, cb 74, cb 75, cb 76, cb 77, cb 78, cb 79, cb 80, cb 81, cb 82, cb 83, cb 84, cb 85, cb 86, cb 87, cb 88, cb 89, cb 90, cb 91, cb 92, cb 93, cb 94, cb 95, cb 96, cb 97, cb 98, cb 99, cb 100, cb 101, cb 102, cb 103]) (by kernel_rfl) rfl (by kernel_rfl) (by rw [H])))
theorem divide_give_go {xs : List Int} {aa : Int} {u ys : List Int} (H : ∀ (cb : Nat → Blk) (ver : Nat), (divide_give_l0 cb ver aa u 0 (wi ((u.length : Int) + 1)) 0 xs ys)) : divide_give_R xs aa u ys := by
 intro cb ver n ln
 replace H := H cb ver
 refine W.sc (n := 104) Tryz.func222 (by kernel_rfl) (by kernel_rfl) (by kernel_rfl) (by kernel_rfl) ?_
 exact W.adv 14 (W.tl (P := divide_give_l0_s cb ver aa u 0 (wi ((u.length : Int) + 1)) 0 xs n) (H _ ln))
end Go.Proofs.YtjcdkemnflmfiaaGreatA
namespace Go.Proofs.YtjcdkemnflmfiaaGreatA
open Go Go.Proofs
section
variable (br : List T_api_Rat) (a2 : List T_fail_Case) (aw an : Int) (b0 : List T_api_Hop) (bw ba : Int) (bb : ByteArray) (ay : List T_api_Node) (bc : List T_api_Link) (bd : List T_api_Rule) (am ab : Int) (q : Bool) (a3 : ByteArray) (a4 a5 : Int) (a6 : Bool) (a7 : List T71) (a8 : List T_string) (ap : List (T_string × T_int)) (a9 : List T_api_Rat) (ar : Bool) (au av : List Int) (b2 : Int) (bg : Bool) (bi bk : List Int) (c : Bool) (e f : List Int) (l : List (T_int × T_api_Rat)) (al : List Int) (p : List T_api_Rat) (be : Nat) (az : D) (aq : Blk) (cn : ByteArray) (cp : List T_api_Node) (cq : List T_api_Link) (bq : List T_api_Rule) (a0 : Int) (ac : List Int) (ad : List T_api_Rat) (ae : Bool) (af ag : List Int) (ai : Int)
noncomputable def step_Of_l0_s (j : Nat → D) (jb : Nat → Blk) (vs : Nat → Nat) : Cf := cfAt Tryz.f11 [1, 1, 1, 1, 1, 1, 1, 1, 1, 0, 1, 0] ⟨([j 0, j 1, .pref 2 1 0 0, j 3, .pref 4 1 0 0, j 5, .pref 6 1 0 0, .pref 7 1 0 0, j 8, j 9, .pref 10 1 0 0, .mref 69 1] ++ (J j 12 58 ++ ([(.list 4 (a2.map E_fail_Case)), .int .i64 aw, .int .i64 an] ++ J j 73 89))), ([jb 0, jb 1, ⟨1, false, .rows 4 [(.agg [.str bb, (.list 2 (ay.map E_api_Node)), (.list 6 (bc.map E_api_Link)), (.list 5 (bd.map E_api_Rule))])]⟩, jb 3, ⟨1, false, .rows 5 [(.agg [.nilS, .nilS, .bool q, .nilS, .nilS])]⟩, jb 5, ⟨1, false, .rows 5 [(.agg [.str a3, .int .u32 a4, .int .i64 a5, .bool a6, (.list 1 (a7.map E71))])]⟩, ⟨1, (jb 7).fz, .rows 3 [(.agg [(.list 1 (a8.map E_string)), (.mlit (mks E_string ap) (mvs E_int ap)), (.list 3 (a9.map E_api_Rat))])]⟩, jb 8, jb 9, ⟨1, false, .rows 3 [(.agg [.bool ar, .ints .u64 au, .ints .u64 av])]⟩] ++ (J jb 11 58 ++ ([⟨1, false, .map (mrow E_int E_api_Rat l)⟩] ++ J jb 70 92)))⟩
def step_Of_l0 : Prop := ∀ j jb vs, W C F 11 0 (step_Of_l0_s a2 aw an bb ay bc bd q a3 a4 a5 a6 a7 a8 ap a9 ar au av l  j jb vs) (Ans C Tryz.f11 (.tuple [(.agg [.ints .i64 ac, (.list 3 (ad.map E_api_Rat)), .bool ae, .ints .u64 af, .ints .u64 ag]), .int .i64 ai]))
noncomputable def step_Of_l1_s (j : Nat → D) (jb : Nat → Blk) (vs : Nat → Nat) : Cf := cfAt Tryz.f11 [1, 1, 1, 1, 1, 1, 1, 1, 1, 0, 1, 0, 0, 1, 1, 0, 0, 1, 1, 1, 1, 1, 0] ⟨([j 0, j 1, .pref 2 1 0 0, j 3, .pref 4 1 0 0, j 5, .pref 6 1 0 0, .pref 7 1 0 0, j 8, j 9, .pref 10 1 0 0, .mref 69 1, j 12, (.pref 13 ((vs 13) + 1) 0 0), j 14, j 15, (.list 3 (br.map E_api_Rat))] ++ (J j 17 53 ++ ([(.list 4 (a2.map E_fail_Case)), .int .i64 aw, .int .i64 an] ++ (J j 73 17 ++ ([(.list 2 (b0.map E_api_Hop)), .int .i64 bw, .int .i64 ba] ++ J j 93 69))))), ([jb 0, jb 1, ⟨1, false, .rows 4 [(.agg [.str bb, (.list 2 (ay.map E_api_Node)), (.list 6 (bc.map E_api_Link)), (.list 5 (bd.map E_api_Rule))])]⟩, jb 3, ⟨1, false, .rows 5 [(.agg [.nilS, .nilS, .bool q, .nilS, .nilS])]⟩, jb 5, ⟨1, false, .rows 5 [(.agg [.str a3, .int .u32 a4, .int .i64 a5, .bool a6, (.list 1 (a7.map E71))])]⟩, ⟨1, true, .rows 3 [(.agg [(.list 1 (a8.map E_string)), (.mlit (mks E_string ap) (mvs E_int ap)), (.list 3 (a9.map E_api_Rat))])]⟩, jb 8, jb 9, ⟨1, false, .rows 3 [(.agg [.bool ar, .ints .u64 au, .ints .u64 av])]⟩, jb 11, jb 12, ⟨((vs 13) + 1), true, .rows 4 [(.agg [.int .u64 b2, .bool bg, .ints .u64 bi, .ints .u64 bk])]⟩] ++ (J jb 14 55 ++ ([⟨1, false, .map (mrow E_int E_api_Rat l)⟩] ++ J jb 70 92)))⟩
def step_Of_l1 : Prop := ∀ j jb vs, W C F 11 0 (step_Of_l1_s br a2 aw an b0 bw ba bb ay bc bd q a3 a4 a5 a6 a7 a8 ap a9 ar au av b2 bg bi bk l  j jb vs) (Ans C Tryz.f11 (.tuple [(.agg [.ints .i64 ac, (.list 3 (ad.map E_api_Rat)), .bool ae, .ints .u64 af, .ints .u64 ag]), .int .i64 ai]))
noncomputable def step_Of_l2_s (am ab : Int) (q c : Bool) (e f : List Int) (l : List (T_int × T_api_Rat)) (p : List T_api_Rat) (az : D) (aq : Blk) (j : Nat → D) (jb : Nat → Blk) (vs : Nat → Nat) : Cf := cfAt Tryz.f11 [1, 1, 1, 1, 1, 1, 1, 1, 1, 1, 1, 0, 1, 0] ⟨(J j 0 4 ++ ([.pref 4 1 0 0] ++ (J j 5 6 ++ ([.mref 69 1] ++ (J j 12 10 ++ ([(.pref 22 ((vs 22) + 1) 0 0)] ++ (J j 23 109 ++ ([.int .i64 am, .int .i64 ab] ++ J j 134 28)))))))), (J jb 0 4 ++ ([⟨1, false, .rows 5 [(.agg [.nilS, .nilS, .bool q, .nilS, .nilS])]⟩] ++ (J jb 5 17 ++ ([⟨((vs 22) + 1), false, .rows 5 [(.agg [.nilS, az, .bool c, .ints .u64 e, .ints .u64 f])]⟩] ++ (J jb 23 46 ++ ([⟨1, false, .map (mrow E_int E_api_Rat l)⟩] ++ (J jb 70 87 ++ ([aq] ++ J jb 158 4))))))))⟩
def step_Of_l2 : Prop := ∀ az aq, Opt E_api_Rat 157 3 az aq p → ∀ j jb vs, W C F 11 0 (step_Of_l2_s am ab q c e f l p az aq j jb vs) (Ans C Tryz.f11 (.tuple [(.agg [.ints .i64 ac, (.list 3 (ad.map E_api_Rat)), .bool ae, .ints .u64 af, .ints .u64 ag]), .int .i64 ai]))
noncomputable def step_Of_l3_s (am ab : Int) (q c : Bool) (e f : List Int) (l : List (T_int × T_api_Rat)) (al : List Int) (p : List T_api_Rat) (be : Nat) (az : D) (aq : Blk) (j : Nat → D) (jb : Nat → Blk) (vs : Nat → Nat) : Cf := cfAt Tryz.f11 [1, 1, 1, 1, 1, 1, 1, 1, 1, 1, 1, 0, 1, 0] ⟨(J j 0 4 ++ ([.pref 4 1 0 0] ++ (J j 5 6 ++ ([.mref 69 1] ++ (J j 12 10 ++ ([(.pref 22 ((vs 22) + 1) 0 0)] ++ (J j 23 109 ++ ([.int .i64 am, .int .i64 ab] ++ J j 134 28)))))))), (J jb 0 4 ++ ([⟨1, false, .rows 5 [(.agg [.nilS, .nilS, .bool q, .nilS, .nilS])]⟩] ++ (J jb 5 17 ++ ([⟨((vs 22) + 1), false, .rows 5 [(.agg [(.sref 152 ((vs 152) + 1) 1 0 be), az, .bool c, .ints .u64 e, .ints .u64 f])]⟩] ++ (J jb 23 46 ++ ([⟨1, false, .map (mrow E_int E_api_Rat l)⟩] ++ (J jb 70 82 ++ ([⟨((vs 152) + 1), false, .ints .i64 al⟩] ++ (J jb 153 4 ++ ([aq] ++ J jb 158 4))))))))))⟩
def step_Of_l3 : Prop := ∀ be, be = al.length → ∀ az aq, Opt E_api_Rat 157 3 az aq p → ∀ j jb vs, W C F 11 0 (step_Of_l3_s am ab q c e f l al p be az aq j jb vs) (Ans C Tryz.f11 (.tuple [(.agg [.ints .i64 ac, (.list 3 (ad.map E_api_Rat)), .bool ae, .ints .u64 af, .ints .u64 ag]), .int .i64 ai]))
variable {br a2 aw an b0 bw ba bb ay bc bd am ab q a3 a4 a5 a6 a7 a8 ap a9 ar au av b2 bg bi bk c e f l al p be az aq cn cp cq bq a0 ac ad ae af ag ai}
theorem step_Of_l0_go (H : (an < aw ∧ 0 ≤ an ∧ an < (a2.length : Int) ∧ ∃ bv bl bm bn, a2.getD (an).toNat (0, false, [], []) = (bv, bl, bm, bn) ∧ ∃ bf ci, step_Shares_v1_R a3 a4 a5 a6 a7 bv bl bm bn a8 ap a9 bf ci ∧ (((bf.length : Int) = 0 ∧ ∃ dd de df, rat_Add_R ar au av bl bm bn dd de df ∧ step_Of_l1 ci a2 aw an bf (bf.length : Int) 0 bb ay bc bd q a3 a4 a5 a6 a7 a8 ap a9 dd de df bv bl bm bn l ac ad ae af ag ai) ∨ ¬ (bf.length : Int) = 0 ∧ step_Of_l1 ci a2 aw an bf (bf.length : Int) 0 bb ay bc bd q a3 a4 a5 a6 a7 a8 ap a9 ar au av bv bl bm bn l ac ad ae af ag ai)) ∨ ¬ an < aw ∧ step_Of_l2 (ay.length : Int) 0 q ar au av l ([] : List T_api_Rat) ac ad ae af ag ai) : step_Of_l0 a2 aw an bb ay bc bd q a3 a4 a5 a6 a7 a8 ap a9 ar au av l ac ad ae af ag ai := by
 intro j jb vs
 refine W.adv 1 (W.adv 6 ?_)
 rcases H with ⟨d5, H⟩ | ⟨d5, H⟩
 ·refine W.ct (an < aw) d5 ?_
  refine W.adv 6 ?_
  obtain ⟨e0, e1, H⟩ := H
  obtain ⟨bv, bl, bm, bn, e2, H⟩ := H
  refine W.opS (O.ixE E_fail_Case 4 .i64 a2 an (0, false, [], []) (bv, bl, bm, bn) e0 e1 e2) ?_
  refine W.adv 2 (W.opH (O.stV 13 ((jb 13).ver + 1) 0 0 4 4 [(.agg [.int .u64 0, .bool false, .nilS, .nilS])] [(.agg [.int .u64 bv, .bool bl, .ints .u64 bm, .ints .u64 bn])] (.agg [.int .u64 0, .bool false, .nilS, .nilS]) (.agg [.int .u64 bv, .bool bl, .ints .u64 bm, .ints .u64 bn])) ?_)
  refine W.adv 12 ?_
  obtain ⟨bf, ci, e3, H⟩ := H
  refine W.callR (g := 19) (ds := [(.agg [.str a3, .int .u32 a4, .int .i64 a5, .bool a6, (.list 1 (a7.map E71))]), (.fn 42 [] [(.pref 13 ((jb 13).ver + 1) 0 0), .pref 7 1 0 0])]) (es := [(.agg [.str a3, .int .u32 a4, .int .i64 a5, .bool a6, (.list 1 (a7.map E71))]), (.fn 42 [] [(.ptr [.int .u64 bv, .bool bl, .ints .u64 bm, .ints .u64 bn]), (.ptr [(.list 1 (a8.map E_string)), (.mlit (mks E_string ap) (mvs E_int ap)), (.list 3 (a9.map E_api_Rat))])])]) (r := (.tuple [(.list 2 (bf.map E_api_Hop)), (.list 3 (ci.map E_api_Rat))])) (by kernel_rfl) (rf_cons (by kernel_rfl) (rf_cons (rf_fn rf_nil (rf_cons (rf_prefV (b := 13) (v := ((jb 13).ver + 1)) (w := ((jb 13).ver + 1)) (i := 0) (off := 0) (n := 4) (fz := false) (xs := [(.agg [.int .u64 bv, .bool bl, .ints .u64 bm, .ints .u64 bn])]) (d := (.agg [.int .u64 bv, .bool bl, .ints .u64 bm, .ints .u64 bn])) (by kernel_rfl) rfl (by kernel_rfl) (by kernel_rfl)) (rf_cons (by kernel_rfl) rf_nil))) rf_nil)) (Ic.args e3 (by kernel_rfl)) (by kernel_rfl) ?_
  refine W.adv 11 (W.opS (O.ln bf E_api_Hop) ?_)
  refine W.adv 3 ?_
  rcases H with ⟨d6, H⟩ | ⟨d6, H⟩
  ·refine W.ct ((bf.length : Int) = 0) d6 ?_
   refine W.adv 3 (W.opS (O.ldV 13 ((jb 13).ver + 1) 0 1 4 3 true true [(.agg [.int .u64 bv, .bool bl, .ints .u64 bm, .ints .u64 bn])] (.agg [.bool bl, .ints .u64 bm, .ints .u64 bn])) ?_)
   obtain ⟨dd, de, df, e4, H⟩ := H
   refine W.cl 44 [(.agg [.bool ar, .ints .u64 au, .ints .u64 av]), (.agg [.bool bl, .ints .u64 bm, .ints .u64 bn])] (.agg [.bool dd, .ints .u64 de, .ints .u64 df]) e4 ?_
   refine W.adv 6 (W.opS (O.ln bf E_api_Hop) ?_)
   exact W.adv 4 (W.tl H)
  ·refine W.cf ((bf.length : Int) = 0) d6 ?_
   refine W.adv 5 (W.opS (O.ln bf E_api_Hop) ?_)
   exact W.adv 4 (W.tl H)
 ·refine W.cf (an < aw) d5 ?_
  refine W.adv 10 (W.opH (O.stV 22 ((jb 22).ver + 1) 0 0 5 5 [(.agg [.nilS, .nilS, .bool false, .nilS, .nilS])] [(.agg [.nilS, .nilS, .bool ar, .ints .u64 au, .ints .u64 av])] (.agg [.nilS, .nilS, .bool false, .nilS, .nilS]) (.agg [.nilS, .nilS, .bool ar, .ints .u64 au, .ints .u64 av])) ?_)
  refine W.adv 7 (W.opS (O.ln ay E_api_Node) ?_)
  exact W.adv 4 (W.tl (P := step_Of_l2_s (ay.length : Int) 0 q ar au av l ([] : List T_api_Rat) .nilS (jb 157)) (H _ _ Opt.nil))
theorem step_Of_l1_go (H : (ba < bw ∧ 0 ≤ ba ∧ ba < (b0.length : Int) ∧ ∃ cc cv, b0.getD (ba).toNat (ByteArray.empty, 0) = (cc, cv) ∧ ∃ bp, mget cc ap = some bp ∧ ((∃ b1, mget bp l = some b1 ∧ ∃ bs, mget bp l = some bs ∧ ba < (br.length : Int) ∧ ∃ cw cy cz, br.getD (ba).toNat (false, [], []) = (cw, cy, cz) ∧ ∃ c0 c1 c2, rat_Mul_R bg bi bk cw cy cz c0 c1 c2 ∧ ∃ dg di dk, rat_Add_R bs.1 bs.2.1 bs.2.2 c0 c1 c2 dg di dk ∧ ∃ d3, d3 = mput bp (dg, di, dk) l ∧ step_Of_l1 br a2 aw an b0 bw (wi (ba + 1)) bb ay bc bd q a3 a4 a5 a6 a7 a8 ap a9 ar au av b2 bg bi bk d3 ac ad ae af ag ai) ∨ mget bp l = none ∧ ∃ dl dm dn, rat_Of_R 0 dl dm dn ∧ ∃ c3, c3 = mput bp (dl, dm, dn) l ∧ ∃ bt, mget bp c3 = some bt ∧ ba < (br.length : Int) ∧ ∃ c4 c5 c6, br.getD (ba).toNat (false, [], []) = (c4, c5, c6) ∧ ∃ c7 c8 c9, rat_Mul_R bg bi bk c4 c5 c6 c7 c8 c9 ∧ ∃ dp dq dr, rat_Add_R bt.1 bt.2.1 bt.2.2 c7 c8 c9 dp dq dr ∧ ∃ d4, d4 = mput bp (dp, dq, dr) c3 ∧ step_Of_l1 br a2 aw an b0 bw (wi (ba + 1)) bb ay bc bd q a3 a4 a5 a6 a7 a8 ap a9 ar au av b2 bg bi bk d4 ac ad ae af ag ai)) ∨ ¬ ba < bw ∧ step_Of_l0 a2 aw (wi (an + 1)) bb ay bc bd q a3 a4 a5 a6 a7 a8 ap a9 ar au av l ac ad ae af ag ai) : step_Of_l1 br a2 aw an b0 bw ba bb ay bc bd q a3 a4 a5 a6 a7 a8 ap a9 ar au av b2 bg bi bk l ac ad ae af ag ai := by
 intro j jb vs
 refine W.adv 1 (W.adv 6 ?_)
 rcases H with ⟨d7, H⟩ | ⟨d7, H⟩
 ·refine W.ct (ba < bw) d7 ?_
  refine W.adv 7 ?_
  obtain ⟨d8, fa, H⟩ := H
  obtain ⟨cc, cv, fb, H⟩ := H
  refine W.opS (O.ixE E_api_Hop 2 .i64 b0 ba (ByteArray.empty, 0) (cc, cv) d8 fa fb) ?_
  refine W.adv 3 (W.opH (O.stV 18 ((jb 18).ver + 1) 0 0 2 2 [(.agg [.str ⟨#[]⟩, .int .i64 0])] [(.agg [.str cc, .int .i64 cv])] (.agg [.str ⟨#[]⟩, .int .i64 0]) (.agg [.str cc, .int .i64 cv])) ?_)
  refine W.adv 7 (W.opS (O.ldV 18 ((jb 18).ver + 1) 0 0 2 1 false false [(.agg [.str cc, .int .i64 cv])] (.str cc)) ?_)
  obtain ⟨bp, fc, H⟩ := H
  refine W.opS (OpIs.lkSomeF (kd := .string) (z := (.int .i64 0)) (ok := false) (ek := E_string) (ev := E_int) (k := cc) (L := ap) (x := bp) (r := (.int .i64 bp)) (by kernel_rfl) sameD_str fc rfl) ?_
  refine W.adv 8 ?_
  rcases H with ⟨b1, d9, H⟩ | ⟨d9, H⟩
  ·refine W.opS (OpIs.lkSome (kd := .int .i64) (z := (.agg [.bool false, .nilS, .nilS])) (ok := true) (fz := false) (b := 69) (v := 1) (w := 1) (ek := E_int) (ev := E_api_Rat) (k := bp) (L := l) (x := b1) (r := (.tuple [(.agg [.bool b1.1, .ints .u64 b1.2.1, .ints .u64 b1.2.2]), .bool true])) (by kernel_rfl) rfl (sameD_int .i64) d9 rfl) ?_
   refine W.adv 4 (W.opH (O.stV 20 ((jb 20).ver + 1) 0 0 3 3 [(.agg [.bool false, .nilS, .nilS])] [(.agg [.bool b1.1, .ints .u64 b1.2.1, .ints .u64 b1.2.2])] (.agg [.bool false, .nilS, .nilS]) (.agg [.bool b1.1, .ints .u64 b1.2.1, .ints .u64 b1.2.2])) ?_)
   refine W.adv 17 ?_
   obtain ⟨bs, fd, H⟩ := H
   refine W.opS (OpIs.lkSome (kd := .int .i64) (z := (.agg [.bool false, .nilS, .nilS])) (ok := false) (fz := false) (b := 69) (v := 1) (w := 1) (ek := E_int) (ev := E_api_Rat) (k := bp) (L := l) (x := bs) (r := (.agg [.bool bs.1, .ints .u64 bs.2.1, .ints .u64 bs.2.2])) (by kernel_rfl) rfl (sameD_int .i64) fd rfl) ?_
   refine W.adv 1 (W.opS (O.ldV 13 ((vs 13) + 1) 0 1 4 3 true true [(.agg [.int .u64 b2, .bool bg, .ints .u64 bi, .ints .u64 bk])] (.agg [.bool bg, .ints .u64 bi, .ints .u64 bk])) ?_)
   refine W.adv 2 ?_
   obtain ⟨fe, H⟩ := H
   obtain ⟨cw, cy, cz, fg, H⟩ := H
   refine W.opS (O.ixE E_api_Rat 3 .i64 br ba (false, [], []) (cw, cy, cz) d8 fe fg) ?_
   refine W.adv 1 ?_
   obtain ⟨c0, c1, c2, fi, H⟩ := H
   refine W.cl 45 [(.agg [.bool bg, .ints .u64 bi, .ints .u64 bk]), (.agg [.bool cw, .ints .u64 cy, .ints .u64 cz])] (.agg [.bool c0, .ints .u64 c1, .ints .u64 c2]) fi ?_
   obtain ⟨dg, di, dk, fk, H⟩ := H
   refine W.cl 44 [(.agg [.bool bs.1, .ints .u64 bs.2.1, .ints .u64 bs.2.2]), (.agg [.bool c0, .ints .u64 c1, .ints .u64 c2])] (.agg [.bool dg, .ints .u64 di, .ints .u64 dk]) fk ?_
   obtain ⟨d3, fl, H⟩ := H
   refine W.opH (OpIs.mu (kd := .int .i64) (b := 69) (v := 1) (w := 1) (ek := E_int) (ev := E_api_Rat) (k := bp) (x := (dg, di, dk)) (L := l) (by kernel_rfl) fl rfl (sameD_int .i64)) ?_
   exact W.adv 8 (W.tl H)
  ·refine W.opS (OpIs.lkNone (kd := .int .i64) (z := (.agg [.bool false, .nilS, .nilS])) (ok := true) (fz := false) (b := 69) (v := 1) (w := 1) (ek := E_int) (ev := E_api_Rat) (k := bp) (L := l) (r := (.tuple [(.agg [.bool false, .nilS, .nilS]), .bool false])) (by kernel_rfl) rfl (sameD_int .i64) d9 rfl) ?_
   refine W.adv 4 (W.opH (O.stV 20 ((jb 20).ver + 1) 0 0 3 3 [(.agg [.bool false, .nilS, .nilS])] [(.agg [.bool false, .nilS, .nilS])] (.agg [.bool false, .nilS, .nilS]) (.agg [.bool false, .nilS, .nilS])) ?_)
   refine W.adv 13 ?_
   obtain ⟨dl, dm, dn, fm, H⟩ := H
   refine W.cl 38 [.int .i64 0] (.agg [.bool dl, .ints .u64 dm, .ints .u64 dn]) fm ?_
   obtain ⟨c3, fp, H⟩ := H
   refine W.opH (OpIs.mu (kd := .int .i64) (b := 69) (v := 1) (w := 1) (ek := E_int) (ev := E_api_Rat) (k := bp) (x := (dl, dm, dn)) (L := l) (by kernel_rfl) fp rfl (sameD_int .i64)) ?_
   refine W.adv 7 ?_
   obtain ⟨bt, fq, H⟩ := H
   refine W.opS (OpIs.lkSome (kd := .int .i64) (z := (.agg [.bool false, .nilS, .nilS])) (ok := false) (fz := false) (b := 69) (v := 1) (w := 1) (ek := E_int) (ev := E_api_Rat) (k := bp) (L := c3) (x := bt) (r := (.agg [.bool bt.1, .ints .u64 bt.2.1, .ints .u64 bt.2.2])) (by kernel_rfl) rfl (sameD_int .i64) fq rfl) ?_
   refine W.adv 1 (W.opS (O.ldV 13 ((vs 13) + 1) 0 1 4 3 true true [(.agg [.int .u64 b2, .bool bg, .ints .u64 bi, .ints .u64 bk])] (.agg [.bool bg, .ints .u64 bi, .ints .u64 bk])) ?_)
   refine W.adv 2 ?_
   obtain ⟨fr, H⟩ := H
   obtain ⟨c4, c5, c6, fs, H⟩ := H
   refine W.opS (O.ixE E_api_Rat 3 .i64 br ba (false, [], []) (c4, c5, c6) d8 fr fs) ?_
   refine W.adv 1 ?_
   obtain ⟨c7, c8, c9, ft, H⟩ := H
   refine W.cl 45 [(.agg [.bool bg, .ints .u64 bi, .ints .u64 bk]), (.agg [.bool c4, .ints .u64 c5, .ints .u64 c6])] (.agg [.bool c7, .ints .u64 c8, .ints .u64 c9]) ft ?_
   obtain ⟨dp, dq, dr, fu, H⟩ := H
   refine W.cl 44 [(.agg [.bool bt.1, .ints .u64 bt.2.1, .ints .u64 bt.2.2]), (.agg [.bool c7, .ints .u64 c8, .ints .u64 c9])] (.agg [.bool dp, .ints .u64 dq, .ints .u64 dr]) fu ?_
   obtain ⟨d4, fv, H⟩ := H
   refine W.opH (OpIs.mu (kd := .int .i64) (b := 69) (v := 1) (w := 1) (ek := E_int) (ev := E_api_Rat) (k := bp) (x := (dp, dq, dr)) (L := c3) (by kernel_rfl) fv rfl (sameD_int .i64)) ?_
   exact W.adv 8 (W.tl H)
 ·refine W.cf (ba < bw) d7 ?_
  exact W.adv 11 (W.tl H)
theorem step_Of_l2_go (H : ab < am ∧ ((∃ u, mget ab l = some u ∧ ∃ ck, rat_Sign_R u.1 u.2.1 u.2.2 ck ∧ (ck = 0 ∧ step_Of_l2 am (wi (ab + 1)) q c e f l p ac ad ae af ag ai ∨ ¬ ck = 0 ∧ (1 + 192) * (8 + 1) ≤ 70368744177664 ∧ ∃ da, da = [ab] ∧ (p.length + 1 + 192) * (56 + 1) ≤ 70368744177664 ∧ ∃ b9, b9 = p ++ [(u.1, u.2.1, u.2.2)] ∧ step_Of_l3 am (wi (ab + 1)) q c e f l da b9 ac ad ae af ag ai)) ∨ mget ab l = none ∧ step_Of_l2 am (wi (ab + 1)) q c e f l p ac ad ae af ag ai) ∨ ¬ ab < am ∧ ac = [] ∧ ad = p ∧ ae = c ∧ af = e ∧ ag = f ∧ ai = 0) : step_Of_l2 am ab q c e f l p ac ad ae af ag ai := by
 intro az aq cd j jb vs
 refine W.adv 1 (W.adv 6 ?_)
 rcases H with ⟨ea, H⟩ | ⟨ea, H⟩
 ·refine W.ct (ab < am) ea ?_
  refine W.adv 14 ?_
  rcases H with ⟨u, ec, H⟩ | ⟨ec, H⟩
  ·refine W.opS (OpIs.lkSome (kd := .int .i64) (z := (.agg [.bool false, .nilS, .nilS])) (ok := true) (fz := false) (b := 69) (v := 1) (w := 1) (ek := E_int) (ev := E_api_Rat) (k := ab) (L := l) (x := u) (r := (.tuple [(.agg [.bool u.1, .ints .u64 u.2.1, .ints .u64 u.2.2]), .bool true])) (by kernel_rfl) rfl (sameD_int .i64) ec rfl) ?_
   refine W.adv 4 (W.opH (O.stV 24 ((jb 24).ver + 1) 0 0 3 3 [(.agg [.bool false, .nilS, .nilS])] [(.agg [.bool u.1, .ints .u64 u.2.1, .ints .u64 u.2.2])] (.agg [.bool false, .nilS, .nilS]) (.agg [.bool u.1, .ints .u64 u.2.1, .ints .u64 u.2.2])) ?_)
   refine W.adv 8 (W.opS (O.ldV 24 ((jb 24).ver + 1) 0 0 3 3 false true [(.agg [.bool u.1, .ints .u64 u.2.1, .ints .u64 u.2.2])] (.agg [.bool u.1, .ints .u64 u.2.1, .ints .u64 u.2.2])) ?_)
   refine W.adv 1 ?_
   obtain ⟨ck, fw, H⟩ := H
   refine W.cl 25 [(.agg [.bool u.1, .ints .u64 u.2.1, .ints .u64 u.2.2])] (.int .i64 ck) fw ?_
   refine W.adv 5 ?_
   rcases H with ⟨ed, H⟩ | ⟨ed, H⟩
   ·refine W.cb false (!(decide (ck = 0))) (congrArg (fun b => !b) (decide_eq_true ed)) ?_
    exact W.adv 8 (W.tl (H _ _ cd))
   ·refine W.cb true (!(decide (ck = 0))) (congrArg (fun b => !b) (decide_eq_false ed)) ?_
    refine W.adv 2 (W.opS (O.ldV 22 ((vs 22) + 1) 0 0 5 1 false false [(.agg [.nilS, az, .bool c, .ints .u64 e, .ints .u64 f])] .nilS) ?_)
    refine W.adv 2 ?_
    obtain ⟨fy, H⟩ := H
    obtain ⟨da, eu, H⟩ := H
    have ew : 1 = da.length := by rw [eu] <;> rfl
    refine W.opH (O.apNil (.lit (.ints .i64 [ab])) 8 152 ((jb 152).ver) .i64 [ab] eu fy) ?_
    refine W.adv 1 (W.opS (O.ldV 22 ((vs 22) + 1) 0 1 5 1 false false [(.agg [.nilS, az, .bool c, .ints .u64 e, .ints .u64 f])] az) ?_)
    refine W.opS (O.ldV 24 ((jb 24).ver + 1) 0 0 3 3 false true [(.agg [.bool u.1, .ints .u64 u.2.1, .ints .u64 u.2.2])] (.agg [.bool u.1, .ints .u64 u.2.1, .ints .u64 u.2.2])) ?_
    refine W.adv 1 ?_
    rcases cd with ⟨rfl, cl⟩ | ⟨ak, rfl, rfl⟩
    ·subst cl
     obtain ⟨ee, H⟩ := H
     obtain ⟨b9, dt, H⟩ := H
     have ef : 1 = b9.length := by rw [dt] <;> rfl
     refine W.opH (O.apENil E_api_Rat (.lit (.list 3 [(.agg [.bool u.1, .ints .u64 u.2.1, .ints .u64 u.2.2])])) 56 157 aq.ver 3 [(u.1, u.2.1, u.2.2)] (dt.trans (List.nil_append _)) (by first | (simp; done) | (simp at ee ⊢; omega) | omega)) ?_
     refine W.adv 1 (W.opH (O.stV 22 ((vs 22) + 1) 0 0 5 1 [(.agg [.nilS, .nilS, .bool c, .ints .u64 e, .ints .u64 f])] [(.agg [(.sref 152 ((jb 152).ver + 1) 1 0 1), .nilS, .bool c, .ints .u64 e, .ints .u64 f])] (.agg [.nilS, .nilS, .bool c, .ints .u64 e, .ints .u64 f]) (.sref 152 ((jb 152).ver + 1) 1 0 1)) ?_)
     refine W.adv 1 (W.opH (O.stV 22 ((vs 22) + 1) 0 1 5 1 [(.agg [(.sref 152 ((jb 152).ver + 1) 1 0 1), .nilS, .bool c, .ints .u64 e, .ints .u64 f])] [(.agg [(.sref 152 ((jb 152).ver + 1) 1 0 1), (.sref 157 (aq.ver + 1) 3 0 1), .bool c, .ints .u64 e, .ints .u64 f])] (.agg [(.sref 152 ((jb 152).ver + 1) 1 0 1), .nilS, .bool c, .ints .u64 e, .ints .u64 f]) (.sref 157 (aq.ver + 1) 3 0 1)) ?_)
     exact W.adv 8 (W.tl (P := step_Of_l3_s am (wi (ab + 1)) q c e f l da b9 1 (.sref 157 (aq.ver + 1) 3 0 1) (⟨(aq.ver + 1), false, .rows 3 (b9.map E_api_Rat)⟩)) (H _ ew _ _ (Opt.row (w := aq.ver) (by first | rfl | omega) ef)))
    ·obtain ⟨ee, H⟩ := H
     obtain ⟨b9, dt, H⟩ := H
     have ef : (p.length + 1) = b9.length := by rw [dt, List.length_append] <;> rfl
     refine W.opK (O.apERow E_api_Rat (.lit (.list 3 [(.agg [.bool u.1, .ints .u64 u.2.1, .ints .u64 u.2.2])])) 56 157 (ak + 1) 157 (ak + 1) p.length 3 p [(u.1, u.2.1, u.2.2)] dt rfl ee) ?_
     refine W.adv 1 (W.opH (O.stV 22 ((vs 22) + 1) 0 0 5 1 [(.agg [.nilS, (.sref 157 (ak + 1) 3 0 p.length), .bool c, .ints .u64 e, .ints .u64 f])] [(.agg [(.sref 152 ((jb 152).ver + 1) 1 0 1), (.sref 157 (ak + 1) 3 0 p.length), .bool c, .ints .u64 e, .ints .u64 f])] (.agg [.nilS, (.sref 157 (ak + 1) 3 0 p.length), .bool c, .ints .u64 e, .ints .u64 f]) (.sref 152 ((jb 152).ver + 1) 1 0 1)) ?_)
     refine W.adv 1 (W.opH (O.stV 22 ((vs 22) + 1) 0 1 5 1 [(.agg [(.sref 152 ((jb 152).ver + 1) 1 0 1), (.sref 157 (ak + 1) 3 0 p.length), .bool c, .ints .u64 e, .ints .u64 f])] [(.agg [(.sref 152 ((jb 152).ver + 1) 1 0 1), (.sref 157 ((ak + 1) + 1) 3 0 (p.length + 1)), .bool c, .ints .u64 e, .ints .u64 f])] (.agg [(.sref 152 ((jb 152).ver + 1) 1 0 1), (.sref 157 (ak + 1) 3 0 p.length), .bool c, .ints .u64 e, .ints .u64 f]) (.sref 157 ((ak + 1) + 1) 3 0 (p.length + 1))) ?_)
     exact W.adv 8 (W.tl (P := step_Of_l3_s am (wi (ab + 1)) q c e f l da b9 1 (.sref 157 ((ak + 1) + 1) 3 0 (p.length + 1)) (⟨((ak + 1) + 1), false, .rows 3 (b9.map E_api_Rat)⟩)) (H _ ew _ _ (Opt.row (w := (ak + 1)) (by first | rfl | omega) ef)))
  ·refine W.opS (OpIs.lkNone (kd := .int .i64) (z := (.agg [.bool false, .nilS, .nilS])) (ok := true) (fz := false) (b := 69) (v := 1) (w := 1) (ek := E_int) (ev := E_api_Rat) (k := ab) (L := l) (r := (.tuple [(.agg [.bool false, .nilS, .nilS]), .bool false])) (by kernel_rfl) rfl (sameD_int .i64) ec rfl) ?_
   refine W.adv 4 (W.opH (O.stV 24 ((jb 24).ver + 1) 0 0 3 3 [(.agg [.bool false, .nilS, .nilS])] [(.agg [.bool false, .nilS, .nilS])] (.agg [.bool false, .nilS, .nilS]) (.agg [.bool false, .nilS, .nilS])) ?_)
   exact W.adv 22 (W.tl (H _ _ cd))
 ·refine W.cf (ab < am) ea ?_
  refine W.adv 7 (W.opS (O.ldV 22 ((vs 22) + 1) 0 0 5 5 false true [(.agg [.nilS, az, .bool c, .ints .u64 e, .ints .u64 f])] (.agg [.nilS, az, .bool c, .ints .u64 e, .ints .u64 f])) ?_)
  refine W.adv 5 ?_
  rcases cd with ⟨rfl, cl⟩ | ⟨ak, rfl, rfl⟩
  ·subst cl
   exact W.fr (Ans.q (.tuple [(.agg [.ints .i64 [], (.list 3 (([] : List T_api_Rat).map E_api_Rat)), .bool c, .ints .u64 e, .ints .u64 f]), .int .i64 0]) (by rw [H.1, H.2.1, H.2.2.1, H.2.2.2.1, H.2.2.2.2.1, H.2.2.2.2.2]))
  ·exact W.fr (Ans.of (d := (.tuple [(.agg [.nilS, (.sref 157 (ak + 1) 3 0 p.length), .bool c, .ints .u64 e, .ints .u64 f]), .int .i64 0])) (d' := (.tuple [(.agg [.nilS, (.list 3 (p.map E_api_Rat)), .bool c, .ints .u64 e, .ints .u64 f]), .int .i64 0])) (e' := (.tuple [(.agg [.ints .i64 [], (.list 3 (p.map E_api_Rat)), .bool c, .ints .u64 e, .ints .u64 f]), .int .i64 0])) (by kernel_rfl) ((congrArg (fun h => reify h DEPTH (.tuple [(.agg [.nilS, (.sref 157 (ak + 1) 3 0 p.length), .bool c, .ints .u64 e, .ints .u64 f]), .int .i64 0])) (tidy_ver (b := 157) (v := ak) (fz := false) (y := .rows 3 (p.map E_api_Rat)) (by kernel_rfl))).trans (rf_tup (rf_cons (rf_agg (rf_cons (by kernel_rfl) (rf_cons (rf_fullE (enc := E_api_Rat) E_api_Rat_t (b := 157) (v := (ak + 1)) (w := (ak + 1)) (fz := false) (xs := p) (by kernel_rfl) rfl rfl) (rf_cons (by kernel_rfl) (rf_cons (by kernel_rfl) (rf_cons (by kernel_rfl) rf_nil)))))) (rf_cons (by kernel_rfl) rf_nil)))) (by kernel_rfl) (by rw [H.1, H.2.1, H.2.2.1, H.2.2.2.1, H.2.2.2.2.1, H.2.2.2.2.2]))
theorem step_Of_l3_go (H : ab < am ∧ ((∃ aa, mget ab l = some aa ∧ ∃ cm, rat_Sign_R aa.1 aa.2.1 aa.2.2 cm ∧ (cm = 0 ∧ step_Of_l3 am (wi (ab + 1)) q c e f l al p ac ad ae af ag ai ∨ ¬ cm = 0 ∧ (al.length + 1 + 192) * (8 + 1) ≤ 70368744177664 ∧ ∃ db, db = al ++ [ab] ∧ (p.length + 1 + 192) * (56 + 1) ≤ 70368744177664 ∧ ∃ ca, ca = p ++ [(aa.1, aa.2.1, aa.2.2)] ∧ step_Of_l3 am (wi (ab + 1)) q c e f l db ca ac ad ae af ag ai)) ∨ mget ab l = none ∧ step_Of_l3 am (wi (ab + 1)) q c e f l al p ac ad ae af ag ai) ∨ ¬ ab < am ∧ ac = al ∧ ad = p ∧ ae = c ∧ af = e ∧ ag = f ∧ ai = 0) : step_Of_l3 am ab q c e f l al p ac ad ae af ag ai := by
 intro be du az aq cd j jb vs
 refine W.adv 1 (W.adv 6 ?_)
 rcases H with ⟨eg, H⟩ | ⟨eg, H⟩
 ·refine W.ct (ab < am) eg ?_
  refine W.adv 14 ?_
  rcases H with ⟨aa, ei, H⟩ | ⟨ei, H⟩
  ·refine W.opS (OpIs.lkSome (kd := .int .i64) (z := (.agg [.bool false, .nilS, .nilS])) (ok := true) (fz := false) (b := 69) (v := 1) (w := 1) (ek := E_int) (ev := E_api_Rat) (k := ab) (L := l) (x := aa) (r := (.tuple [(.agg [.bool aa.1, .ints .u64 aa.2.1, .ints .u64 aa.2.2]), .bool true])) (by kernel_rfl) rfl (sameD_int .i64) ei rfl) ?_
   refine W.adv 4 (W.opH (O.stV 24 ((jb 24).ver + 1) 0 0 3 3 [(.agg [.bool false, .nilS, .nilS])] [(.agg [.bool aa.1, .ints .u64 aa.2.1, .ints .u64 aa.2.2])] (.agg [.bool false, .nilS, .nilS]) (.agg [.bool aa.1, .ints .u64 aa.2.1, .ints .u64 aa.2.2])) ?_)
   refine W.adv 8 (W.opS (O.ldV 24 ((jb 24).ver + 1) 0 0 3 3 false true [(.agg [.bool aa.1, .ints .u64 aa.2.1, .ints .u64 aa.2.2])] (.agg [.bool aa.1, .ints .u64 aa.2.1, .ints .u64 aa.2.2])) ?_)
   refine W.adv 1 ?_
   obtain ⟨cm, f0, H⟩ := H
   refine W.cl 25 [(.agg [.bool aa.1, .ints .u64 aa.2.1, .ints .u64 aa.2.2])] (.int .i64 cm) f0 ?_
   refine W.adv 5 ?_
   rcases H with ⟨el, H⟩ | ⟨el, H⟩
   ·refine W.cb false (!(decide (cm = 0))) (congrArg (fun b => !b) (decide_eq_true el)) ?_
    exact W.adv 8 (W.tl (H _ du _ _ cd))
   ·refine W.cb true (!(decide (cm = 0))) (congrArg (fun b => !b) (decide_eq_false el)) ?_
    refine W.adv 2 (W.opS (O.ldV 22 ((vs 22) + 1) 0 0 5 1 false false [(.agg [(.sref 152 ((vs 152) + 1) 1 0 be), az, .bool c, .ints .u64 e, .ints .u64 f])] (.sref 152 ((vs 152) + 1) 1 0 be)) ?_)
    refine W.adv 2 ?_
    obtain ⟨f1, H⟩ := H
    obtain ⟨db, ey, H⟩ := H
    have ez : (al.length + 1) = db.length := by rw [ey, List.length_append] <;> rfl
    refine W.opK (O.apRow (.lit (.ints .i64 [ab])) 8 152 ((vs 152) + 1) 152 ((vs 152) + 1) be .i64 al [ab] ey du f1) ?_
    refine W.adv 1 (W.opS (O.ldV 22 ((vs 22) + 1) 0 1 5 1 false false [(.agg [(.sref 152 ((vs 152) + 1) 1 0 be), az, .bool c, .ints .u64 e, .ints .u64 f])] az) ?_)
    refine W.opS (O.ldV 24 ((jb 24).ver + 1) 0 0 3 3 false true [(.agg [.bool aa.1, .ints .u64 aa.2.1, .ints .u64 aa.2.2])] (.agg [.bool aa.1, .ints .u64 aa.2.1, .ints .u64 aa.2.2])) ?_
    refine W.adv 1 ?_
    rcases cd with ⟨rfl, cl⟩ | ⟨ak, rfl, rfl⟩
    ·subst cl
     obtain ⟨em, H⟩ := H
     obtain ⟨ca, dw, H⟩ := H
     have en : 1 = ca.length := by rw [dw] <;> rfl
     refine W.opH (O.apENil E_api_Rat (.lit (.list 3 [(.agg [.bool aa.1, .ints .u64 aa.2.1, .ints .u64 aa.2.2])])) 56 157 aq.ver 3 [(aa.1, aa.2.1, aa.2.2)] (dw.trans (List.nil_append _)) (by first | (simp; done) | (simp at em ⊢; omega) | omega)) ?_
     refine W.adv 1 (W.opH (O.stV 22 ((vs 22) + 1) 0 0 5 1 [(.agg [(.sref 152 ((vs 152) + 1) 1 0 be), .nilS, .bool c, .ints .u64 e, .ints .u64 f])] [(.agg [(.sref 152 (((vs 152) + 1) + 1) 1 0 (al.length + 1)), .nilS, .bool c, .ints .u64 e, .ints .u64 f])] (.agg [(.sref 152 ((vs 152) + 1) 1 0 be), .nilS, .bool c, .ints .u64 e, .ints .u64 f]) (.sref 152 (((vs 152) + 1) + 1) 1 0 (al.length + 1))) ?_)
     refine W.adv 1 (W.opH (O.stV 22 ((vs 22) + 1) 0 1 5 1 [(.agg [(.sref 152 (((vs 152) + 1) + 1) 1 0 (al.length + 1)), .nilS, .bool c, .ints .u64 e, .ints .u64 f])] [(.agg [(.sref 152 (((vs 152) + 1) + 1) 1 0 (al.length + 1)), (.sref 157 (aq.ver + 1) 3 0 1), .bool c, .ints .u64 e, .ints .u64 f])] (.agg [(.sref 152 (((vs 152) + 1) + 1) 1 0 (al.length + 1)), .nilS, .bool c, .ints .u64 e, .ints .u64 f]) (.sref 157 (aq.ver + 1) 3 0 1)) ?_)
     exact W.adv 8 (W.tl (P := step_Of_l3_s am (wi (ab + 1)) q c e f l db ca (al.length + 1) (.sref 157 (aq.ver + 1) 3 0 1) (⟨(aq.ver + 1), false, .rows 3 (ca.map E_api_Rat)⟩)) (H _ ez _ _ (Opt.row (w := aq.ver) (by first | rfl | omega) en)))
    ·obtain ⟨em, H⟩ := H
     obtain ⟨ca, dw, H⟩ := H
     have en : (p.length + 1) = ca.length := by rw [dw, List.length_append] <;> rfl
     refine W.opK (O.apERow E_api_Rat (.lit (.list 3 [(.agg [.bool aa.1, .ints .u64 aa.2.1, .ints .u64 aa.2.2])])) 56 157 (ak + 1) 157 (ak + 1) p.length 3 p [(aa.1, aa.2.1, aa.2.2)] dw rfl em) ?_
     refine W.adv 1 (W.opH (O.stV 22 ((vs 22) + 1) 0 0 5 1 [(.agg [(.sref 152 ((vs 152) + 1) 1 0 be), (.sref 157 (ak + 1) 3 0 p.length), .bool c, .ints .u64 e, .ints .u64 f])] [(.agg [(.sref 152 (((vs 152) + 1) + 1) 1 0 (al.length + 1)), (.sref 157 (ak + 1) 3 0 p.length), .bool c, .ints .u64 e, .ints .u64 f])] (.agg [(.sref 152 ((vs 152) + 1) 1 0 be), (.sref 157 (ak + 1) 3 0 p.length), .bool c, .ints .u64 e, .ints .u64 f]) (.sref 152 (((vs 152) + 1) + 1) 1 0 (al.length + 1))) ?_)
     refine W.adv 1 (W.opH (O.stV 22 ((vs 22) + 1) 0 1 5 1 [(.agg [(.sref 152 (((vs 152) + 1) + 1) 1 0 (al.length + 1)), (.sref 157 (ak + 1) 3 0 p.length), .bool c, .ints .u64 e, .ints .u64 f])] [(.agg [(.sref 152 (((vs 152) + 1) + 1) 1 0 (al.length + 1)), (.sref 157 ((ak + 1) + 1) 3 0 (p.length + 1)), .bool c, .ints .u64 e, .ints .u64 f])] (.agg [(.sref 152 (((vs 152) + 1) + 1) 1 0 (al.length + 1)), (.sref 157 (ak + 1) 3 0 p.length), .bool c, .ints .u64 e, .ints .u64 f]) (.sref 157 ((ak + 1) + 1) 3 0 (p.length + 1))) ?_)
     exact W.adv 8 (W.tl (P := step_Of_l3_s am (wi (ab + 1)) q c e f l db ca (al.length + 1) (.sref 157 ((ak + 1) + 1) 3 0 (p.length + 1)) (⟨((ak + 1) + 1), false, .rows 3 (ca.map E_api_Rat)⟩)) (H _ ez _ _ (Opt.row (w := (ak + 1)) (by first | rfl | omega) en)))
  ·refine W.opS (OpIs.lkNone (kd := .int .i64) (z := (.agg [.bool false, .nilS, .nilS])) (ok := true) (fz := false) (b := 69) (v := 1) (w := 1) (ek := E_int) (ev := E_api_Rat) (k := ab) (L := l) (r := (.tuple [(.agg [.bool false, .nilS, .nilS]), .bool false])) (by kernel_rfl) rfl (sameD_int .i64) ei rfl) ?_
   refine W.adv 4 (W.opH (O.stV 24 ((jb 24).ver + 1) 0 0 3 3 [(.agg [.bool false, .nilS, .nilS])] [(.agg [.bool false, .nilS, .nilS])] (.agg [.bool false, .nilS, .nilS]) (.agg [.bool false, .nilS, .nilS])) ?_)
   exact W.adv 22 (W.tl (H _ du _ _ cd))
 ·refine W.cf (ab < am) eg ?_
  refine W.adv 7 (W.opS (O.ldV 22 ((vs 22) + 1) 0 0 5 5 false true [(.agg [(.sref 152 ((vs 152) + 1) 1 0 be), az, .bool c, .ints .u64 e, .ints .u64 f])] (.agg [(.sref 152 ((vs 152) + 1) 1 0 be), az, .bool c, .ints .u64 e, .ints .u64 f])) ?_)
  refine W.adv 5 ?_
  rcases cd with ⟨rfl, cl⟩ | ⟨ak, rfl, rfl⟩
  ·subst cl
   exact W.fr (Ans.of (d := (.tuple [(.agg [(.sref 152 ((vs 152) + 1) 1 0 be), .nilS, .bool c, .ints .u64 e, .ints .u64 f]), .int .i64 0])) (d' := (.tuple [(.agg [.ints .i64 al, .nilS, .bool c, .ints .u64 e, .ints .u64 f]), .int .i64 0])) (e' := (.tuple [(.agg [.ints .i64 al, (.list 3 (([] : List T_api_Rat).map E_api_Rat)), .bool c, .ints .u64 e, .ints .u64 f]), .int .i64 0])) (by kernel_rfl) ((congrArg (fun h => reify h DEPTH (.tuple [(.agg [(.sref 152 ((vs 152) + 1) 1 0 be), .nilS, .bool c, .ints .u64 e, .ints .u64 f]), .int .i64 0])) (tidy_ver (b := 152) (v := (vs 152)) (fz := false) (y := .ints .i64 al) (by kernel_rfl))).trans (rf_tup (rf_cons (rf_agg (rf_cons (rf_full (b := 152) (v := ((vs 152) + 1)) (w := ((vs 152) + 1)) (fz := false) (k := .i64) (xs := al) (by kernel_rfl) rfl du) (rf_cons (by kernel_rfl) (rf_cons (by kernel_rfl) (rf_cons (by kernel_rfl) (rf_cons (by kernel_rfl) rf_nil)))))) (rf_cons (by kernel_rfl) rf_nil)))) (by kernel_rfl) (by rw [H.1, H.2.1, H.2.2.1, H.2.2.2.1, H.2.2.2.2.1, H.2.2.2.2.2]))
  ·exact W.fr (Ans.of (d := (.tuple [(.agg [(.sref 152 ((vs 152) + 1) 1 0 be), (.sref 157 (ak + 1) 3 0 p.length), .bool c, .ints .u64 e, .ints .u64 f]), .int .i64 0])) (d' := (.tuple [(.agg [.ints .i64 al, (.list 3 (p.map E_api_Rat)), .bool c, .ints .u64 e, .ints .u64 f]), .int .i64 0])) (e' := (.tuple [(.agg [.ints .i64 al, (.list 3 (p.map E_api_Rat)), .bool c, .ints .u64 e, .ints .u64 f]), .int .i64 0])) (by kernel_rfl) ((congrArg (fun h => reify h DEPTH (.tuple [(.agg [(.sref 152 ((vs 152) + 1) 1 0 be), (.sref 157 (ak + 1) 3 0 p.length), .bool c, .ints .u64 e, .ints .u64 f]), .int .i64 0])) (tidy_ver (b := 152) (v := (vs 152)) (fz := false) (y := .ints .i64 al) (by kernel_rfl))).trans (rf_tup (rf_cons (rf_agg (rf_cons (rf_full (b := 152) (v := ((vs 152) + 1)) (w := ((vs 152) + 1)) (fz := false) (k := .i64) (xs := al) (by kernel_rfl) rfl du) (rf_cons (rf_fullE (enc := E_api_Rat) E_api_Rat_t (b := 157) (v := (ak + 1)) (w := (ak + 1)) (fz := false) (xs := p) (by kernel_rfl) rfl rfl) (rf_cons (by kernel_rfl) (rf_cons (by kernel_rfl) (rf_cons (by kernel_rfl) rf_nil)))))) (rf_cons (by kernel_rfl) rf_nil)))) (by kernel_rfl) (by rw [H.1, H.2.1, H.2.2.1, H.2.2.2.1, H.2.2.2.2.1, H.2.2.2.2.2]))
theorem step_Of_go (H : a0 < 0 ∧ ac = [] ∧ ad = ([] : List T_api_Rat) ∧ ae = false ∧ af = [] ∧ ag = [] ∧ ai = 9 ∨ ¬ a0 < 0 ∧ ((bq.length : Int) ≤ a0 ∧ ac = [] ∧ ad = ([] : List T_api_Rat) ∧ ae = false ∧ af = [] ∧ ag = [] ∧ ai = 9 ∨ ¬ (bq.length : Int) ≤ a0 ∧ 0 ≤ a0 ∧ a0 < (bq.length : Int) ∧ ∃ b3 b4 b5 bu b6, bq.getD (a0).toNat (ByteArray.empty, 0, 0, false, []) = (b3, b4, b5, bu, b6) ∧ ((bu = true ∧ ∃ cr cs ct, rat_Of_R 0 cr cs ct ∧ ac = [] ∧ ad = ([] : List T_api_Rat) ∧ ae = cr ∧ af = cs ∧ ag = ct ∧ ai = 0) ∨ ¬ bu = true ∧ ∃ dy dc cf b7, step_links_R cn cp cq bq b3 b4 b5 bu b6 dy dc cf b7 ∧ ((b7 = 0 ∧ ∃ ce b8, fail_All_R cf ce b8 ∧ ((b8 = 0 ∧ ∃ cg, step_light_R b3 b4 b5 bu b6 cg ∧ (cg = true ∧ ac = [] ∧ ad = ([] : List T_api_Rat) ∧ ae = false ∧ af = [] ∧ ag = [] ∧ ai = 2 ∨ ¬ cg = true ∧ ∃ dz d1 d2, rat_Of_R 0 dz d1 d2 ∧ step_Of_l0 ce (ce.length : Int) 0 cn cp cq bq false b3 b4 b5 bu b6 dy dc cf dz d1 d2 ([] : List (T_int × T_api_Rat)) ac ad ae af ag ai)) ∨ ¬ b8 = 0 ∧ ac = [] ∧ ad = ([] : List T_api_Rat) ∧ ae = false ∧ af = [] ∧ ag = [] ∧ ai = 2)) ∨ ¬ b7 = 0 ∧ ac = [] ∧ ad = ([] : List T_api_Rat) ∧ ae = false ∧ af = [] ∧ ag = [] ∧ ai = b7)))) : step_Of_R cn cp cq bq a0 ac ad ae af ag ai := by
 refine W.ii Tryz.func11 ?_
 refine W.adv 13 ?_
 rcases H with ⟨bz, H⟩ | ⟨bz, H⟩
 ·refine W.gt' (a0 < 0) bz ?_
  refine W.gt' (a0 < 0) bz ?_
  refine W.gt' (a0 < 0) bz ?_
  refine W.gt' (a0 < 0) bz ?_
  refine W.gt' (a0 < 0) bz ?_
  refine W.opS (O.pk (decide (a0 < 0)) true (.bool true) (.tuple []) (decide_eq_true bz)) ?_
  exact W.adv 12 (W.fr (Ans.q (.tuple [(.agg [.ints .i64 [], (.list 3 (([] : List T_api_Rat).map E_api_Rat)), .bool false, .ints .u64 [], .ints .u64 []]), .int .i64 9]) (by rw [H.1, H.2.1, H.2.2.1, H.2.2.2.1, H.2.2.2.2.1, H.2.2.2.2.2])))
 ·refine W.gf' (a0 < 0) bz ?_
  refine W.adv 1 (W.gf' (a0 < 0) bz ?_)
  refine W.adv 1 (W.gf' (a0 < 0) bz ?_)
  refine W.adv 1 (W.gf' (a0 < 0) bz ?_)
  refine W.opS (O.ln bq E_api_Rule) ?_
  refine W.gf' (a0 < 0) bz ?_
  refine W.adv 1 (W.opS (O.pk (decide (a0 < 0)) false (.bool true) (.bool (decide ((bq.length : Int) ≤ a0))) (decide_eq_false bz)) ?_)
  refine W.adv 2 ?_
  rcases H with ⟨ep, H⟩ | ⟨ep, H⟩
  ·refine W.ct ((bq.length : Int) ≤ a0) ep ?_
   exact W.adv 9 (W.fr (Ans.q (.tuple [(.agg [.ints .i64 [], (.list 3 (([] : List T_api_Rat).map E_api_Rat)), .bool false, .ints .u64 [], .ints .u64 []]), .int .i64 9]) (by rw [H.1, H.2.1, H.2.2.1, H.2.2.2.1, H.2.2.2.2.1, H.2.2.2.2.2])))
  ·refine W.cf ((bq.length : Int) ≤ a0) ep ?_
   refine W.adv 7 ?_
   obtain ⟨f2, f3, H⟩ := H
   obtain ⟨b3, b4, b5, bu, b6, f4, H⟩ := H
   refine W.opS (O.ixE E_api_Rule 5 .i64 bq a0 (ByteArray.empty, 0, 0, false, []) (b3, b4, b5, bu, b6) f2 f3 f4) ?_
   refine W.adv 12 ?_
   rcases H with ⟨eq, H⟩ | ⟨eq, H⟩
   ·refine W.cb true bu eq ?_
    refine W.adv 2 ?_
    obtain ⟨cr, cs, ct, f5, H⟩ := H
    refine W.cl 38 [.int .i64 0] (.agg [.bool cr, .ints .u64 cs, .ints .u64 ct]) f5 ?_
    exact W.adv 7 (W.fr (Ans.q (.tuple [(.agg [.ints .i64 [], (.list 3 (([] : List T_api_Rat).map E_api_Rat)), .bool cr, .ints .u64 cs, .ints .u64 ct]), .int .i64 0]) (by rw [H.1, H.2.1, H.2.2.1, H.2.2.2.1, H.2.2.2.2.1, H.2.2.2.2.2])))
   ·refine W.cb false bu (bfalse eq) ?_
    refine W.adv 6 ?_
    obtain ⟨dy, dc, cf, b7, f6, H⟩ := H
    refine W.cl 39 [(.agg [.str cn, (.list 2 (cp.map E_api_Node)), (.list 6 (cq.map E_api_Link)), (.list 5 (bq.map E_api_Rule))]), (.agg [.str b3, .int .u32 b4, .int .i64 b5, .bool bu, (.list 1 (b6.map E71))])] (.tuple [(.agg [(.list 1 (dy.map E_string)), (.mlit (mks E_string dc) (mvs E_int dc)), (.list 3 (cf.map E_api_Rat))]), .int .i64 b7]) f6 ?_
    refine W.adv 15 ?_
    rcases H with ⟨er, H⟩ | ⟨er, H⟩
    ·refine W.cb false (!(decide (b7 = 0))) (congrArg (fun b => !b) (decide_eq_true er)) ?_
     refine W.adv 6 ?_
     obtain ⟨ce, b8, f7, H⟩ := H
     refine W.cl 40 [(.list 3 (cf.map E_api_Rat))] (.tuple [(.list 4 (ce.map E_fail_Case)), .int .i64 b8]) f7 ?_
     refine W.adv 13 ?_
     rcases H with ⟨cu, H⟩ | ⟨cu, H⟩
     ·refine W.gb true ((!(decide (b8 = 0))) == false) (congrArg (fun b => b == false) (congrArg (fun b => !b) (decide_eq_true cu))) ?_
      refine W.adv 1 (W.gb true ((!(decide (b8 = 0))) == false) (congrArg (fun b => b == false) (congrArg (fun b => !b) (decide_eq_true cu))) ?_)
      obtain ⟨cg, f8, H⟩ := H
      refine W.cl 41 [(.agg [.str b3, .int .u32 b4, .int .i64 b5, .bool bu, (.list 1 (b6.map E71))])] (.bool cg) f8 ?_
      refine W.opS (O.pk (!(decide (b8 = 0))) false (.bool true) (.bool cg) (congrArg (fun b => !b) (decide_eq_true cu))) ?_
      refine W.adv 2 ?_
      rcases H with ⟨et, H⟩ | ⟨et, H⟩
      ·refine W.cb true cg et ?_
       exact W.adv 9 (W.fr (Ans.q (.tuple [(.agg [.ints .i64 [], (.list 3 (([] : List T_api_Rat).map E_api_Rat)), .bool false, .ints .u64 [], .ints .u64 []]), .int .i64 2]) (by rw [H.1, H.2.1, H.2.2.1, H.2.2.2.1, H.2.2.2.2.1, H.2.2.2.2.2])))
      ·refine W.cb false cg (bfalse et) ?_
       refine W.adv 4 ?_
       obtain ⟨dz, d1, d2, f9, H⟩ := H
       refine W.cl 38 [.int .i64 0] (.agg [.bool dz, .ints .u64 d1, .ints .u64 d2]) f9 ?_
       refine W.adv 10 (W.opS (O.ln ce E_fail_Case) ?_)
       exact W.adv 4 (W.tl H)
     ·refine W.gb false ((!(decide (b8 = 0))) == false) (congrArg (fun b => b == false) (congrArg (fun b => !b) (decide_eq_false cu))) ?_
      refine W.gb false ((!(decide (b8 = 0))) == false) (congrArg (fun b => b == false) (congrArg (fun b => !b) (decide_eq_false cu))) ?_
      refine W.opS (O.pk (!(decide (b8 = 0))) true (.bool true) (.tuple []) (congrArg (fun b => !b) (decide_eq_false cu))) ?_
      exact W.adv 12 (W.fr (Ans.q (.tuple [(.agg [.ints .i64 [], (.list 3 (([] : List T_api_Rat).map E_api_Rat)), .bool false, .ints .u64 [], .ints .u64 []]), .int .i64 2]) (by rw [H.1, H.2.1, H.2.2.1, H.2.2.2.1, H.2.2.2.2.1, H.2.2.2.2.2])))
    ·refine W.cb true (!(decide (b7 = 0))) (congrArg (fun b => !b) (decide_eq_false er)) ?_
     exact W.adv 10 (W.fr (Ans.q (.tuple [(.agg [.ints .i64 [], (.list 3 (([] : List T_api_Rat).map E_api_Rat)), .bool false, .ints .u64 [], .ints .u64 []]), .int .i64 b7]) (by rw [H.1, H.2.1, H.2.2.1, H.2.2.2.1, H.2.2.2.2.1, H.2.2.2.2.2])))
end
theorem step_Of_1_v0_go {c : ByteArray} {b : Int} {i : Bool} {k l : List Int} {e : List T_string} {f : List (T_string × T_int)} {m : List T_api_Rat} {z : Bool} (H : ∃ a, slices_Index___string_string__R e c a ∧ 0 ≤ a ∧ (z = (decide ((bits .and .u64 (b / 2 ^ (min (a).toNat 64)) 1) = 1)))) : step_Of_1_v0_R c b i k l e f m z := by
 refine W.ii Tryz.func42 ?_
 refine W.adv 12 ?_
 obtain ⟨a, n, H⟩ := H
 refine W.cl 43 [(.list 1 (e.map E_string)), .str c] (.int .i64 a) n ?_
 obtain ⟨p, H⟩ := H
 refine W.opS (OpIs.bn (op := .shr) (x := (.int .u64 b)) (y := (.int .i64 a)) (by kernel_rfl) (shrD p)) ?_
 exact W.adv 6 (W.fr (Ans.o (.bool (decide ((bits .and .u64 (b / 2 ^ (min (a).toNat 64)) 1) = 1))) (by rw [H])))
end Go.Proofs.YtjcdkemnflmfiaaGreatA
namespace Go.Proofs.YtjcdkemnflmfiaaGreatA
open Go Go.Proofs
section
variable (b c : List Int) (a : Int) (e f : List Int) (z : Int)
noncomputable def nat_Cmp_l0_s (j : Nat → D) (jb : Nat → Blk) (vs : Nat → Nat) : Cf := cfAt Tryz.f101 [1, 1, 0, 1, 0] ⟨([.ints .u64 b, .ints .u64 c, j 2, j 3, j 4, .int .i64 a] ++ J j 6 39), (J jb 0 45)⟩
def nat_Cmp_l0 : Prop := ∀ j jb vs, W C F 101 0 (nat_Cmp_l0_s b c a  j jb vs) (Ans C Tryz.f101 (.int .i64 z))
variable {b c a e f z}
theorem nat_Cmp_l0_go (H : 0 ≤ a ∧ a < (b.length : Int) ∧ a < (c.length : Int) ∧ ((b.getD (a).toNat 0) < (c.getD (a).toNat 0) ∧ (z = (-1)) ∨ ¬ (b.getD (a).toNat 0) < (c.getD (a).toNat 0) ∧ ((c.getD (a).toNat 0) < (b.getD (a).toNat 0) ∧ (z = 1) ∨ ¬ (c.getD (a).toNat 0) < (b.getD (a).toNat 0) ∧ nat_Cmp_l0 b c (wi (a - 1)) z)) ∨ ¬ 0 ≤ a ∧ (z = 0)) : nat_Cmp_l0 b c a z := by
 intro j jb vs
 refine W.adv 1 (W.adv 7 ?_)
 rcases H with ⟨g, H⟩ | ⟨g, H⟩
 ·refine W.ct (0 ≤ a) g ?_
  refine W.adv 9 ?_
  obtain ⟨q, H⟩ := H
  refine W.opS (O.ixI .u64 .i64 b a g q) ?_
  refine W.adv 3 ?_
  obtain ⟨r, H⟩ := H
  refine W.opS (O.ixI .u64 .i64 c a g r) ?_
  refine W.adv 5 ?_
  rcases H with ⟨l, H⟩ | ⟨l, H⟩
  ·refine W.ct ((b.getD (a).toNat 0) < (c.getD (a).toNat 0)) l ?_
   exact W.adv 12 (W.fr (Ans.o (.int .i64 (-1)) (by rw [H])))
  ·refine W.cf ((b.getD (a).toNat 0) < (c.getD (a).toNat 0)) l ?_
   refine W.adv 4 (W.opS (O.ixI .u64 .i64 b a g q) ?_)
   refine W.adv 3 (W.opS (O.ixI .u64 .i64 c a g r) ?_)
   refine W.adv 5 ?_
   rcases H with ⟨m, H⟩ | ⟨m, H⟩
   ·refine W.ct ((c.getD (a).toNat 0) < (b.getD (a).toNat 0)) m ?_
    exact W.adv 12 (W.fr (Ans.o (.int .i64 1) (by rw [H])))
   ·refine W.cf ((c.getD (a).toNat 0) < (b.getD (a).toNat 0)) m ?_
    exact W.adv 10 (W.tl H)
 ·refine W.cf (0 ≤ a) g ?_
  exact W.adv 11 (W.fr (Ans.o (.int .i64 0) (by rw [H])))
theorem nat_Cmp_go (H : (e.length : Int) < (f.length : Int) ∧ (z = (-1)) ∨ ¬ (e.length : Int) < (f.length : Int) ∧ ((f.length : Int) < (e.length : Int) ∧ (z = 1) ∨ ¬ (f.length : Int) < (e.length : Int) ∧ nat_Cmp_l0 e f (wi ((e.length : Int) - 1)) z)) : nat_Cmp_R e f z := by
 refine W.ii Tryz.func101 ?_
 refine W.adv 17 ?_
 rcases H with ⟨n, H⟩ | ⟨n, H⟩
 ·refine W.ct ((e.length : Int) < (f.length : Int)) n ?_
  exact W.adv 8 (W.fr (Ans.o (.int .i64 (-1)) (by rw [H])))
 ·refine W.cf ((e.length : Int) < (f.length : Int)) n ?_
  refine W.adv 10 ?_
  rcases H with ⟨p, H⟩ | ⟨p, H⟩
  ·refine W.ct ((f.length : Int) < (e.length : Int)) p ?_
   exact W.adv 8 (W.fr (Ans.o (.int .i64 1) (by rw [H])))
  ·refine W.cf ((f.length : Int) < (e.length : Int)) p ?_
   exact W.adv 13 (W.tl (P := nat_Cmp_l0_s e f (wi ((e.length : Int) - 1))) H)
end
section
variable (s t : List Int) (f u p a : Int) (l : List Int) (q : Nat) (c e z : List Int)
noncomputable def nat_Add_l0_s (j : Nat → D) (jb : Nat → Blk) (vs : Nat → Nat) : Cf := cfAt Tryz.f149 [1, 1, 1, 1, 0, 1, 0] ⟨([.ints .u64 s, .ints .u64 t, j 2, j 3, j 4, .int .i64 f, .sref 16 1 1 0 q, .int .u64 u] ++ (J j 8 9 ++ ([.int .i64 p, .int .i64 a] ++ J j 19 23))), (J jb 0 16 ++ ([⟨1, false, .ints .u64 l⟩] ++ J jb 17 25))⟩
def nat_Add_l0 : Prop := ∀ q, q = l.length → ∀ j jb vs, W C F 149 0 (nat_Add_l0_s s t f u p a l q j jb vs) (Ans C Tryz.f149 (.ints .u64 z))
variable {s t f u p a l q c e z}
theorem nat_Add_l0_go (H : (a < p ∧ ∃ ab, nat_at_R s a ab ∧ ∃ ac, nat_at_R t a ac ∧ ∃ ae af, limb_Add_R ab ac u ae af ∧ 0 ≤ a ∧ a < (l.length : Int) ∧ ∃ ag, ag = l.set (a).toNat ae ∧ nat_Add_l0 s t f af p (wi (a + 1)) ag z) ∨ ¬ a < p ∧ 0 ≤ f ∧ f < (l.length : Int) ∧ ∃ ad, ad = l.set (f).toNat u ∧ ∃ aa, nat_trim_R ad aa ∧ (z = aa)) : nat_Add_l0 s t f u p a l z := by
 intro q ak j jb vs
 refine W.adv 1 (W.adv 6 ?_)
 rcases H with ⟨al, H⟩ | ⟨al, H⟩
 ·refine W.ct (a < p) al ?_
  refine W.adv 15 ?_
  obtain ⟨ab, aq, H⟩ := H
  refine W.cl 182 [.ints .u64 s, .int .i64 a] (.int .u64 ab) aq ?_
  refine W.adv 2 ?_
  obtain ⟨ac, ar, H⟩ := H
  refine W.cl 182 [.ints .u64 t, .int .i64 a] (.int .u64 ac) ar ?_
  refine W.adv 1 ?_
  obtain ⟨ae, af, au, H⟩ := H
  refine W.cl 181 [.int .u64 ab, .int .u64 ac, .int .u64 u] (.tuple [.int .u64 ae, .int .u64 af]) au ?_
  refine W.adv 3 ?_
  obtain ⟨av, aw, H⟩ := H
  refine W.opS (O.ixR .i64 16 1 1 q a av (by rw [ak]; exact aw)) ?_
  obtain ⟨ag, am, H⟩ := H
  have ay : q = ag.length := by rw [am, List.length_set] <;> exact ak
  refine W.opH (OpIs.stN (b := 16) (v := 1) (i := (a).toNat) (w := 1) (k := .u64) (xs := l) (n := ae) (by kernel_rfl) am rfl (by omega)) ?_
  exact W.adv 9 (W.tl (H _ ay))
 ·refine W.cf (a < p) al ?_
  refine W.adv 10 ?_
  obtain ⟨az, a2, H⟩ := H
  refine W.opS (O.ixR .i64 16 1 1 q f az (by rw [ak]; exact a2)) ?_
  obtain ⟨ad, an, H⟩ := H
  have a3 : q = ad.length := by rw [an, List.length_set] <;> exact ak
  refine W.opH (OpIs.stN (b := 16) (v := 1) (i := (f).toNat) (w := 1) (k := .u64) (xs := l) (n := u) (by kernel_rfl) an rfl (by omega)) ?_
  refine W.adv 5 ?_
  obtain ⟨aa, a4, H⟩ := H
  refine W.callR (g := 183) (ds := [.sref 16 1 1 0 q]) (es := [.ints .u64 ad]) (r := (.ints .u64 aa)) (by kernel_rfl) (rf_cons (rf_full (b := 16) (v := 1) (w := 1) (fz := false) (k := .u64) (xs := ad) (by kernel_rfl) rfl a3) rf_nil) (Ic.args a4 (by kernel_rfl)) (by kernel_rfl) ?_
  exact W.adv 4 (W.fr (Ans.o (.ints .u64 aa) (by rw [H])))
theorem nat_Add_go (H : 0 ≤ (wi ((mx (c.length : Int) (e.length : Int)) + 1)) ∧ 8 * (wi ((mx (c.length : Int) (e.length : Int)) + 1)) ≤ 140737488351232 ∧ ∃ ai, ai = List.replicate (wi ((mx (c.length : Int) (e.length : Int)) + 1)).toNat 0 ∧ nat_Add_l0 c e (mx (c.length : Int) (e.length : Int)) 0 (mx (c.length : Int) (e.length : Int)) 0 ai z) : nat_Add_R c e z := by
 refine W.ii Tryz.func149 ?_
 refine W.adv 19 ?_
 obtain ⟨a5, a6, H⟩ := H
 obtain ⟨ai, ap, H⟩ := H
 have a7 : (wi ((mx (c.length : Int) (e.length : Int)) + 1)).toNat = ai.length := by rw [ap, List.length_replicate]
 refine W.opH (OpIs.msN (k1 := .i64) (k2 := .i64) (k := .u64) (n := (wi ((mx (c.length : Int) (e.length : Int)) + 1))) (m := (wi ((mx (c.length : Int) (e.length : Int)) + 1))) (y := 8) (b := 16) (v := 0) (by kernel_rfl) ap a5 (Int.le_refl _) a6 (by omega)) ?_
 exact W.adv 16 (W.tl (P := nat_Add_l0_s c e (mx (c.length : Int) (e.length : Int)) 0 (mx (c.length : Int) (e.length : Int)) 0 ai ((wi ((mx (c.length : Int) (e.length : Int)) + 1)).toNat)) (H _ a7))
end
theorem nat_Of_go {a : Int} {z : List Int} (H : ∃ b, nat_trim_R [(a.tmod 4294967296), (a / 2 ^ 32)] b ∧ (z = b)) : nat_Of_R a z := by
 refine W.ii Tryz.func150 ?_
 refine W.adv 12 ?_
 obtain ⟨b, c, H⟩ := H
 refine W.callR (g := 183) (ds := [(.lit (.ints .u64 [(a.tmod 4294967296), (a / 2 ^ 32)]))]) (es := [(.ints .u64 [(a.tmod 4294967296), (a / 2 ^ 32)])]) (r := (.ints .u64 b)) (by kernel_rfl) (by kernel_rfl) (Ic.args c (by kernel_rfl)) (by kernel_rfl) ?_
 exact W.adv 4 (W.fr (Ans.o (.ints .u64 b) (by rw [H])))
section
variable (e p : List Int) (u l a : Int) (f : List Int) (q : Nat) (c ab s : List Int) (t : Int)
noncomputable def nat_Sub_l0_s (j : Nat → D) (jb : Nat → Blk) (vs : Nat → Nat) : Cf := cfAt Tryz.f158 [1, 1, 1, 1, 0, 1, 0] ⟨([.ints .u64 e, .ints .u64 p] ++ (J j 2 4 ++ ([.sref 15 1 1 0 q, .int .u64 u] ++ (J j 8 9 ++ ([.int .i64 l, .int .i64 a] ++ J j 19 20))))), (J jb 0 15 ++ ([⟨1, false, .ints .u64 f⟩] ++ J jb 16 23))⟩
def nat_Sub_l0 : Prop := ∀ q, q = f.length → ∀ j jb vs, W C F 158 0 (nat_Sub_l0_s e p u l a f q j jb vs) (Ans C Tryz.f158 (.tuple [.ints .u64 s, .int .i64 t]))
variable {e p u l a f q c ab s t}
theorem nat_Sub_l0_go (H : (a < l ∧ 0 ≤ a ∧ a < (e.length : Int) ∧ ∃ ad, nat_at_R p a ad ∧ ∃ ae af, limb_Sub_R (e.getD (a).toNat 0) ad u ae af ∧ a < (f.length : Int) ∧ ∃ ag, ag = f.set (a).toNat ae ∧ nat_Sub_l0 e p af l (wi (a + 1)) ag s t) ∨ ¬ a < l ∧ ∃ aa, nat_trim_R f aa ∧ s = aa ∧ t = 0) : nat_Sub_l0 e p u l a f s t := by
 intro q ai j jb vs
 refine W.adv 1 (W.adv 6 ?_)
 rcases H with ⟨ak, H⟩ | ⟨ak, H⟩
 ·refine W.ct (a < l) ak ?_
  refine W.adv 15 ?_
  obtain ⟨am, ar, H⟩ := H
  refine W.opS (O.ixI .u64 .i64 e a am ar) ?_
  refine W.adv 3 ?_
  obtain ⟨ad, au, H⟩ := H
  refine W.cl 182 [.ints .u64 p, .int .i64 a] (.int .u64 ad) au ?_
  refine W.adv 1 ?_
  obtain ⟨ae, af, av, H⟩ := H
  refine W.cl 186 [(.int .u64 (e.getD (a).toNat 0)), .int .u64 ad, .int .u64 u] (.tuple [.int .u64 ae, .int .u64 af]) av ?_
  refine W.adv 3 ?_
  obtain ⟨aw, H⟩ := H
  refine W.opS (O.ixR .i64 15 1 1 q a am (by rw [ai]; exact aw)) ?_
  obtain ⟨ag, an, H⟩ := H
  have ay : q = ag.length := by rw [an, List.length_set] <;> exact ai
  refine W.opH (OpIs.stN (b := 15) (v := 1) (i := (a).toNat) (w := 1) (k := .u64) (xs := f) (n := ae) (by kernel_rfl) an rfl (by omega)) ?_
  exact W.adv 9 (W.tl (H _ ay))
 ·refine W.cf (a < l) ak ?_
  refine W.adv 8 ?_
  obtain ⟨aa, az, H⟩ := H
  refine W.callR (g := 183) (ds := [.sref 15 1 1 0 q]) (es := [.ints .u64 f]) (r := (.ints .u64 aa)) (by kernel_rfl) (rf_cons (rf_full (b := 15) (v := 1) (w := 1) (fz := false) (k := .u64) (xs := f) (by kernel_rfl) rfl ai) rf_nil) (Ic.args az (by kernel_rfl)) (by kernel_rfl) ?_
  exact W.adv 5 (W.fr (Ans.o (.tuple [.ints .u64 aa, .int .i64 0]) (by rw [H.1, H.2])))
theorem nat_Sub_go (H : ∃ ac, nat_Cmp_R c ab ac ∧ (ac < 0 ∧ s = [] ∧ t = 6 ∨ ¬ ac < 0 ∧ 0 ≤ (c.length : Int) ∧ 8 * (c.length : Int) ≤ 140737488351232 ∧ ∃ z, z = List.replicate (c.length : Int).toNat 0 ∧ nat_Sub_l0 c ab 0 (z.length : Int) 0 z s t)) : nat_Sub_R c ab s t := by
 refine W.ii Tryz.func158 ?_
 refine W.adv 11 ?_
 obtain ⟨ac, a2, H⟩ := H
 refine W.cl 101 [.ints .u64 c, .ints .u64 ab] (.int .i64 ac) a2 ?_
 refine W.adv 3 ?_
 rcases H with ⟨al, H⟩ | ⟨al, H⟩
 ·refine W.ct (ac < 0) al ?_
  exact W.adv 8 (W.fr (Ans.q (.tuple [.ints .u64 [], .int .i64 6]) (by rw [H.1, H.2])))
 ·refine W.cf (ac < 0) al ?_
  refine W.adv 6 ?_
  obtain ⟨a3, a4, H⟩ := H
  obtain ⟨z, ap, H⟩ := H
  have aq : (c.length : Int).toNat = z.length := by rw [ap, List.length_replicate]
  refine W.opH (OpIs.msN (k1 := .i64) (k2 := .i64) (k := .u64) (n := (c.length : Int)) (m := (c.length : Int)) (y := 8) (b := 15) (v := 0) (by kernel_rfl) ap a3 (Int.le_refl _) a4 (by omega)) ?_
  refine W.adv 12 (W.opS (OpIs.ln (n := (c.length : Int).toNat) (m := z.length) (by kernel_rfl) aq) ?_)
  exact W.adv 4 (W.tl (H _ aq))
end
section
variable (c : List Int) (e a : Int) (p : List Int) (t : Nat) (q : List Int) (u : Nat) (s f : List Int) (l : Int)
noncomputable def nat_Make_l0_s (j : Nat → D) (jb : Nat → Blk) (vs : Nat → Nat) : Cf := cfAt Tryz.f180 [1, 1, 0, 1, 0] ⟨(J j 0 4 ++ ([.sref 9 1 1 0 t] ++ (J j 5 5 ++ ([.ints .u64 c, .int .i64 e, .int .i64 a] ++ J j 13 12)))), (J jb 0 9 ++ ([⟨1, false, .ints .u64 p⟩] ++ J jb 10 15))⟩
def nat_Make_l0 : Prop := ∀ t, t = p.length → ∀ j jb vs, W C F 180 0 (nat_Make_l0_s c e a p t j jb vs) (Ans C Tryz.f180 (.tuple [.ints .u64 f, .int .i64 l]))
noncomputable def nat_Make_l1_s (j : Nat → D) (jb : Nat → Blk) (vs : Nat → Nat) : Cf := cfAt Tryz.f180 [1, 1, 0, 1, 0] ⟨(J j 0 4 ++ ([(.sref 21 ((vs 21) + 1) 1 0 u)] ++ (J j 5 5 ++ ([.ints .u64 c, .int .i64 e, .int .i64 a] ++ J j 13 12)))), (J jb 0 21 ++ [⟨((vs 21) + 1), false, .ints .u64 q⟩, jb 22, jb 23, jb 24])⟩
def nat_Make_l1 : Prop := ∀ u, u = q.length → ∀ j jb vs, W C F 180 0 (nat_Make_l1_s c e a q u j jb vs) (Ans C Tryz.f180 (.tuple [.ints .u64 f, .int .i64 l]))
variable {c e a p t q u s f l}
theorem nat_Make_l0_go (H : a < e ∧ 0 ≤ a ∧ a < (c.length : Int) ∧ (4294967296 ≤ (c.getD (a).toNat 0) ∧ f = [] ∧ l = 2 ∨ ¬ 4294967296 ≤ (c.getD (a).toNat 0) ∧ (p.length + 1 + 192) * (8 + 1) ≤ 70368744177664 ∧ ∃ ab, ab = p ++ [(c.getD (a).toNat 0)] ∧ nat_Make_l1 c e (wi (a + 1)) ab f l) ∨ ¬ a < e ∧ ∃ z, nat_trim_R p z ∧ f = z ∧ l = 0) : nat_Make_l0 c e a p f l := by
 intro t ak j jb vs
 refine W.adv 1 (W.adv 6 ?_)
 rcases H with ⟨ae, H⟩ | ⟨ae, H⟩
 ·refine W.ct (a < e) ae ?_
  refine W.adv 6 ?_
  obtain ⟨aq, ar, H⟩ := H
  refine W.opS (O.ixI .u64 .i64 c a aq ar) ?_
  refine W.adv 11 ?_
  rcases H with ⟨af, H⟩ | ⟨af, H⟩
  ·refine W.ct (4294967296 ≤ (c.getD (a).toNat 0)) af ?_
   exact W.adv 13 (W.fr (Ans.q (.tuple [.ints .u64 [], .int .i64 2]) (by rw [H.1, H.2])))
  ·refine W.cf (4294967296 ≤ (c.getD (a).toNat 0)) af ?_
   refine W.adv 6 ?_
   obtain ⟨au, H⟩ := H
   obtain ⟨ab, al, H⟩ := H
   have av : (p.length + 1) = ab.length := by rw [al, List.length_append] <;> rfl
   refine W.opK (O.apRow (.lit (.ints .u64 [(c.getD (a).toNat 0)])) 8 21 ((jb 21).ver) 9 1 t .u64 p [(c.getD (a).toNat 0)] al ak au) ?_
   exact W.adv 9 (W.tl (H _ av))
 ·refine W.cf (a < e) ae ?_
  refine W.adv 8 ?_
  obtain ⟨z, aw, H⟩ := H
  refine W.callR (g := 183) (ds := [.sref 9 1 1 0 t]) (es := [.ints .u64 p]) (r := (.ints .u64 z)) (by kernel_rfl) (rf_cons (rf_full (b := 9) (v := 1) (w := 1) (fz := false) (k := .u64) (xs := p) (by kernel_rfl) rfl ak) rf_nil) (Ic.args aw (by kernel_rfl)) (by kernel_rfl) ?_
  exact W.adv 5 (W.fr (Ans.o (.tuple [.ints .u64 z, .int .i64 0]) (by rw [H.1, H.2])))
theorem nat_Make_l1_go (H : a < e ∧ 0 ≤ a ∧ a < (c.length : Int) ∧ (4294967296 ≤ (c.getD (a).toNat 0) ∧ f = [] ∧ l = 2 ∨ ¬ 4294967296 ≤ (c.getD (a).toNat 0) ∧ (q.length + 1 + 192) * (8 + 1) ≤ 70368744177664 ∧ ∃ ac, ac = q ++ [(c.getD (a).toNat 0)] ∧ nat_Make_l1 c e (wi (a + 1)) ac f l) ∨ ¬ a < e ∧ ∃ aa, nat_trim_R q aa ∧ f = aa ∧ l = 0) : nat_Make_l1 c e a q f l := by
 intro u am j jb vs
 refine W.adv 1 (W.adv 6 ?_)
 rcases H with ⟨ag, H⟩ | ⟨ag, H⟩
 ·refine W.ct (a < e) ag ?_
  refine W.adv 6 ?_
  obtain ⟨ay, az, H⟩ := H
  refine W.opS (O.ixI .u64 .i64 c a ay az) ?_
  refine W.adv 11 ?_
  rcases H with ⟨ai, H⟩ | ⟨ai, H⟩
  ·refine W.ct (4294967296 ≤ (c.getD (a).toNat 0)) ai ?_
   exact W.adv 13 (W.fr (Ans.q (.tuple [.ints .u64 [], .int .i64 2]) (by rw [H.1, H.2])))
  ·refine W.cf (4294967296 ≤ (c.getD (a).toNat 0)) ai ?_
   refine W.adv 6 ?_
   obtain ⟨a1, H⟩ := H
   obtain ⟨ac, an, H⟩ := H
   have a2 : (q.length + 1) = ac.length := by rw [an, List.length_append] <;> rfl
   refine W.opK (O.apRow (.lit (.ints .u64 [(c.getD (a).toNat 0)])) 8 21 ((vs 21) + 1) 21 ((vs 21) + 1) u .u64 q [(c.getD (a).toNat 0)] an am a1) ?_
   exact W.adv 9 (W.tl (H _ a2))
 ·refine W.cf (a < e) ag ?_
  refine W.adv 8 ?_
  obtain ⟨aa, a3, H⟩ := H
  refine W.callR (g := 183) (ds := [(.sref 21 ((vs 21) + 1) 1 0 u)]) (es := [.ints .u64 q]) (r := (.ints .u64 aa)) (by kernel_rfl) (rf_cons (rf_full (b := 21) (v := ((vs 21) + 1)) (w := ((vs 21) + 1)) (fz := false) (k := .u64) (xs := q) (by kernel_rfl) rfl am) rf_nil) (Ic.args a3 (by kernel_rfl)) (by kernel_rfl) ?_
  exact W.adv 5 (W.fr (Ans.o (.tuple [.ints .u64 aa, .int .i64 0]) (by rw [H.1, H.2])))
theorem nat_Make_go (H : 0 ≤ (s.length : Int) ∧ 8 * (s.length : Int) ≤ 140737488351232 ∧ ∃ ad, ad = List.replicate 0 0 ∧ nat_Make_l0 s (s.length : Int) 0 ad f l) : nat_Make_R s f l := by
 refine W.ii Tryz.func180 ?_
 refine W.adv 10 ?_
 obtain ⟨a4, a5, H⟩ := H
 obtain ⟨ad, ap, H⟩ := H
 have a6 : 0 = ad.length := by rw [ap, List.length_replicate]
 refine W.opH (OpIs.msN (k1 := .i64) (k2 := .i64) (k := .u64) (n := 0) (m := (s.length : Int)) (y := 8) (b := 9) (v := 0) (by kernel_rfl) ap (by decide) a4 a5 (by omega)) ?_
 exact W.adv 12 (W.tl (H _ a6))
end
theorem limb_Add_go {b c e f g : Int} (H : ∃ a, a = (wu ((wu ((bits .and .u64 b 4294967295) + (bits .and .u64 c 4294967295))) + (bits .and .u64 e 4294967295))) ∧ f = (bits .and .u64 a 4294967295) ∧ g = (a / 2 ^ 32)) : limb_Add_R b c e f g := by
 refine W.ii Tryz.func181 ?_
 refine W.adv 15 ?_
 obtain ⟨a, i, H⟩ := H
 refine W.opS (OpIs.bnN (k := .u64) (op := .add) (x := (.int .u64 (wu ((bits .and .u64 b 4294967295) + (bits .and .u64 c 4294967295))))) (y := (.int .u64 (bits .and .u64 e 4294967295))) (by kernel_rfl) i (by kernel_rfl)) ?_
 exact W.adv 14 (W.fr (Ans.o (.tuple [(.int .u64 (bits .and .u64 a 4294967295)), (.int .u64 (a / 2 ^ 32))]) (by rw [H.1, H.2])))
theorem nat_at_go {b : List Int} {a z : Int} (H : (b.length : Int) ≤ a ∧ (z = 0) ∨ ¬ (b.length : Int) ≤ a ∧ 0 ≤ a ∧ a < (b.length : Int) ∧ (z = (b.getD (a).toNat 0))) : nat_at_R b a z := by
 refine W.ii Tryz.func182 ?_
 refine W.adv 14 ?_
 rcases H with ⟨c, H⟩ | ⟨c, H⟩
 ·refine W.ct ((b.length : Int) ≤ a) c ?_
  exact W.adv 7 (W.fr (Ans.o (.int .u64 0) (by rw [H])))
 ·refine W.cf ((b.length : Int) ≤ a) c ?_
  refine W.adv 6 ?_
  obtain ⟨e, f, H⟩ := H
  refine W.opS (O.ixI .u64 .i64 b a e f) ?_
  exact W.adv 5 (W.fr (Ans.o (.int .u64 (b.getD (a).toNat 0)) (by rw [H])))
section
variable (c : List Int) (a : Int) (f z : List Int)
noncomputable def nat_trim_l0_s (j : Nat → D) (jb : Nat → Blk) (vs : Nat → Nat) : Cf := cfAt Tryz.f183 [1, 1, 0, 0] ⟨([.ints .u64 c, j 1, j 2, .int .i64 a] ++ J j 4 17), (J jb 0 21)⟩
def nat_trim_l0 : Prop := ∀ j jb vs, W C F 183 0 (nat_trim_l0_s c a  j jb vs) (Ans C Tryz.f183 (.ints .u64 z))
variable {c a f z}
theorem nat_trim_l0_go (H : 0 < a ∧ 0 ≤ (wi (a - 1)) ∧ (wi (a - 1)) < (c.length : Int) ∧ ((c.getD (wi (a - 1)).toNat 0) = 0 ∧ nat_trim_l0 c (wi (a - 1)) z ∨ ¬ (c.getD (wi (a - 1)).toNat 0) = 0 ∧ 0 ≤ a ∧ a ≤ (c.length : Int) ∧ (z = (c.take (a).toNat))) ∨ ¬ 0 < a ∧ 0 ≤ a ∧ a ≤ (c.length : Int) ∧ (z = (c.take (a).toNat))) : nat_trim_l0 c a z := by
 intro j jb vs
 refine W.adv 1 (W.adv 6 ?_)
 rcases H with ⟨e, H⟩ | ⟨e, H⟩
 ·refine W.gt (0 < a) e ?_
  refine W.adv 1 (W.gt (0 < a) e ?_)
  refine W.adv 1 (W.gt (0 < a) e ?_)
  refine W.adv 1 (W.gt (0 < a) e ?_)
  obtain ⟨l, m, H⟩ := H
  refine W.opS (O.ixI .u64 .i64 c (wi (a - 1)) l m) ?_
  refine W.gt (0 < a) e ?_
  refine W.adv 1 (W.gt (0 < a) e ?_)
  refine W.adv 1 (W.opS (O.pk (decide (0 < a)) true (.bool (decide ((c.getD (wi (a - 1)).toNat 0) = 0))) (.bool false) (decide_eq_true e)) ?_)
  refine W.adv 2 ?_
  rcases H with ⟨g, H⟩ | ⟨g, H⟩
  ·refine W.ct ((c.getD (wi (a - 1)).toNat 0) = 0) g ?_
   exact W.adv 10 (W.tl H)
  ·refine W.cf ((c.getD (wi (a - 1)).toNat 0) = 0) g ?_
   refine W.adv 9 ?_
   obtain ⟨n, p, H⟩ := H
   refine W.opS (OpIs.slI_hi (k := .u64) (k' := .i64) (xs := c) (i := a) (by kernel_rfl) n p) ?_
   exact W.adv 4 (W.fr (Ans.o (.ints .u64 (c.take (a).toNat)) (by rw [H])))
 ·refine W.gf (0 < a) e ?_
  refine W.gf (0 < a) e ?_
  refine W.gf (0 < a) e ?_
  refine W.gf (0 < a) e ?_
  refine W.gf (0 < a) e ?_
  refine W.gf (0 < a) e ?_
  refine W.opS (O.pk (decide (0 < a)) false (.tuple []) (.bool false) (decide_eq_false e)) ?_
  refine W.adv 12 ?_
  obtain ⟨q, r, H⟩ := H
  refine W.opS (OpIs.slI_hi (k := .u64) (k' := .i64) (xs := c) (i := a) (by kernel_rfl) q r) ?_
  exact W.adv 4 (W.fr (Ans.o (.ints .u64 (c.take (a).toNat)) (by rw [H])))
theorem nat_trim_go (H : nat_trim_l0 f (f.length : Int) z) : nat_trim_R f z := by
 refine W.ii Tryz.func183 ?_
 exact W.adv 14 (W.tl H)
end
theorem limb_Sub_go {a b c l m : Int} (H : ((bits .and .u64 a 4294967295) < (wu ((bits .and .u64 b 4294967295) + (bits .and .u64 c 4294967295))) ∧ ∃ e, e = (wu ((wu ((bits .and .u64 b 4294967295) + (bits .and .u64 c 4294967295))) - (bits .and .u64 a 4294967295))) ∧ ∃ i, i = (wu ((bits .and .u64 a 4294967295) + (wu (((wu (e + 4294967295)) / 2 ^ 32) * 2 ^ 32)))) ∧ ∃ f, f = (wu (i - (wu ((bits .and .u64 b 4294967295) + (bits .and .u64 c 4294967295))))) ∧ l = f ∧ m = ((wu (e + 4294967295)) / 2 ^ 32)) ∨ ¬ (bits .and .u64 a 4294967295) < (wu ((bits .and .u64 b 4294967295) + (bits .and .u64 c 4294967295))) ∧ ∃ g, g = (wu ((wu ((bits .and .u64 a 4294967295) + 0)) - (wu ((bits .and .u64 b 4294967295) + (bits .and .u64 c 4294967295))))) ∧ l = g ∧ m = 0) : limb_Sub_R a b c l m := by
 refine W.ii Tryz.func186 ?_
 refine W.adv 32 ?_
 rcases H with ⟨n, H⟩ | ⟨n, H⟩
 ·refine W.ct ((bits .and .u64 a 4294967295) < (wu ((bits .and .u64 b 4294967295) + (bits .and .u64 c 4294967295)))) n ?_
  refine W.adv 3 ?_
  obtain ⟨e, p, H⟩ := H
  refine W.opS (OpIs.bnN (k := .u64) (op := .sub) (x := (.int .u64 (wu ((bits .and .u64 b 4294967295) + (bits .and .u64 c 4294967295))))) (y := (.int .u64 (bits .and .u64 a 4294967295))) (by kernel_rfl) p (by kernel_rfl)) ?_
  refine W.adv 10 ?_
  obtain ⟨i, q, H⟩ := H
  refine W.opS (OpIs.bnN (k := .u64) (op := .add) (x := (.int .u64 (bits .and .u64 a 4294967295))) (y := (.int .u64 (wu (((wu (e + 4294967295)) / 2 ^ 32) * 2 ^ 32)))) (by kernel_rfl) q (by kernel_rfl)) ?_
  refine W.adv 1 ?_
  obtain ⟨f, r, H⟩ := H
  refine W.opS (OpIs.bnN (k := .u64) (op := .sub) (x := (.int .u64 i)) (y := (.int .u64 (wu ((bits .and .u64 b 4294967295) + (bits .and .u64 c 4294967295))))) (by kernel_rfl) r (by kernel_rfl)) ?_
  exact W.adv 6 (W.fr (Ans.o (.tuple [.int .u64 f, (.int .u64 ((wu (e + 4294967295)) / 2 ^ 32))]) (by rw [H.1, H.2])))
 ·refine W.cf ((bits .and .u64 a 4294967295) < (wu ((bits .and .u64 b 4294967295) + (bits .and .u64 c 4294967295)))) n ?_
  refine W.adv 9 ?_
  obtain ⟨g, s, H⟩ := H
  refine W.opS (OpIs.bnN (k := .u64) (op := .sub) (x := (.int .u64 (wu ((bits .and .u64 a 4294967295) + 0)))) (y := (.int .u64 (wu ((bits .and .u64 b 4294967295) + (bits .and .u64 c 4294967295))))) (by kernel_rfl) s (by kernel_rfl)) ?_
  exact W.adv 6 (W.fr (Ans.o (.tuple [.int .u64 g, .int .u64 0]) (by rw [H.1, H.2])))
section
variable (e : List Int) (b : List (List Int)) (c a : Int) (f : List (List Int)) (z : List Int)
noncomputable def nat_Sum_l0_s (j : Nat → D) (jb : Nat → Blk) (vs : Nat → Nat) : Cf := cfAt Tryz.f203 [1, 1, 0, 1, 0] ⟨([j 0, j 1, j 2, .nilS, j 4, j 5, (.list 1 (b.map (D.ints .u64))), .int .i64 c, .int .i64 a] ++ J j 9 8), (J jb 0 17)⟩
def nat_Sum_l0 : Prop := ∀ j jb vs, W C F 203 0 (nat_Sum_l0_s b c a  j jb vs) (Ans C Tryz.f203 (.ints .u64 z))
noncomputable def nat_Sum_l1_s (j : Nat → D) (jb : Nat → Blk) (vs : Nat → Nat) : Cf := cfAt Tryz.f203 [1, 1, 0, 1, 0] ⟨([j 0, j 1, j 2, .ints .u64 e, j 4, j 5, (.list 1 (b.map (D.ints .u64))), .int .i64 c, .int .i64 a] ++ J j 9 8), (J jb 0 17)⟩
def nat_Sum_l1 : Prop := ∀ j jb vs, W C F 203 0 (nat_Sum_l1_s e b c a  j jb vs) (Ans C Tryz.f203 (.ints .u64 z))
variable {e b c a f z}
theorem nat_Sum_l0_go (H : (a < c ∧ 0 ≤ a ∧ a < (b.length : Int) ∧ ∃ l, nat_Add_R [] (b.getD (a).toNat []) l ∧ nat_Sum_l1 l b c (wi (a + 1)) z) ∨ ¬ a < c ∧ (z = [])) : nat_Sum_l0 b c a z := by
 intro j jb vs
 refine W.adv 1 (W.adv 6 ?_)
 rcases H with ⟨q, H⟩ | ⟨q, H⟩
 ·refine W.ct (a < c) q ?_
  refine W.adv 6 ?_
  obtain ⟨t, u, H⟩ := H
  refine W.opS (OpIs.ixLL (k := .u64) (k' := .i64) (L := b) (i := a) (by kernel_rfl) t u) ?_
  refine W.adv 7 ?_
  obtain ⟨l, v, H⟩ := H
  refine W.cl 149 [.nilS, (.ints .u64 (b.getD (a).toNat []))] (.ints .u64 l) v ?_
  exact W.adv 9 (W.tl H)
 ·refine W.cf (a < c) q ?_
  exact W.adv 12 (W.fr (Ans.q (.ints .u64 []) (by rw [H])))
theorem nat_Sum_l1_go (H : (a < c ∧ 0 ≤ a ∧ a < (b.length : Int) ∧ ∃ p, nat_Add_R e (b.getD (a).toNat []) p ∧ nat_Sum_l1 p b c (wi (a + 1)) z) ∨ ¬ a < c ∧ (z = e)) : nat_Sum_l1 e b c a z := by
 intro j jb vs
 refine W.adv 1 (W.adv 6 ?_)
 rcases H with ⟨s, H⟩ | ⟨s, H⟩
 ·refine W.ct (a < c) s ?_
  refine W.adv 6 ?_
  obtain ⟨y, aa, H⟩ := H
  refine W.opS (OpIs.ixLL (k := .u64) (k' := .i64) (L := b) (i := a) (by kernel_rfl) y aa) ?_
  refine W.adv 7 ?_
  obtain ⟨p, ab, H⟩ := H
  refine W.cl 149 [.ints .u64 e, (.ints .u64 (b.getD (a).toNat []))] (.ints .u64 p) ab ?_
  exact W.adv 9 (W.tl H)
 ·refine W.cf (a < c) s ?_
  exact W.adv 12 (W.fr (Ans.o (.ints .u64 e) (by rw [H])))
theorem nat_Sum_go (H : nat_Sum_l0 f (f.length : Int) 0 z) : nat_Sum_R f z := by
 refine W.ii Tryz.func203 ?_
 refine W.adv 14 (W.opS (OpIs.ln (n := (f.map (D.ints .u64)).length) (m := f.length) (by kernel_rfl) (by rw [List.length_map])) ?_)
 exact W.adv 4 (W.tl H)
end
section
variable (a f : List Int) (g c : Int) (l : List Int) (z : Bool)
noncomputable def nat_May_l0_s (j : Nat → D) (jb : Nat → Blk) (vs : Nat → Nat) : Cf := cfAt Tryz.f209 [1, 0, 1, 0] ⟨([.ints .u64 a] ++ (J j 1 4 ++ ([.ints .u64 f, .int .i64 g, .int .i64 c] ++ J j 8 18))), (J jb 0 26)⟩
def nat_May_l0 : Prop := ∀ j jb vs, W C F 209 0 (nat_May_l0_s a f g c  j jb vs) (Ans C Tryz.f209 (.bool z))
variable {a f g c l z}
theorem nat_May_l0_go (H : c < g ∧ 0 ≤ c ∧ c < (f.length : Int) ∧ (4294967296 ≤ (f.getD (c).toNat 0) ∧ (z = false) ∨ ¬ 4294967296 ≤ (f.getD (c).toNat 0) ∧ nat_May_l0 a f g (wi (c + 1)) z) ∨ ¬ c < g ∧ ((a.length : Int) = 0 ∧ (z = true) ∨ ¬ (a.length : Int) = 0 ∧ 0 ≤ (wi ((a.length : Int) - 1)) ∧ (wi ((a.length : Int) - 1)) < (a.length : Int) ∧ (z = (!(decide ((a.getD (wi ((a.length : Int) - 1)).toNat 0) = 0)))))) : nat_May_l0 a f g c z := by
 intro j jb vs
 refine W.adv 1 (W.adv 6 ?_)
 rcases H with ⟨m, H⟩ | ⟨m, H⟩
 ·refine W.ct (c < g) m ?_
  refine W.adv 6 ?_
  obtain ⟨p, q, H⟩ := H
  refine W.opS (O.ixI .u64 .i64 f c p q) ?_
  refine W.adv 10 ?_
  rcases H with ⟨n, H⟩ | ⟨n, H⟩
  ·refine W.ct (4294967296 ≤ (f.getD (c).toNat 0)) n ?_
   exact W.adv 11 (W.fr (Ans.o (.bool false) (by rw [H])))
  ·refine W.cf (4294967296 ≤ (f.getD (c).toNat 0)) n ?_
   exact W.adv 8 (W.tl H)
 ·refine W.cf (c < g) m ?_
  refine W.adv 11 ?_
  rcases H with ⟨e, H⟩ | ⟨e, H⟩
  ·refine W.gt' ((a.length : Int) = 0) e ?_
   refine W.gt' ((a.length : Int) = 0) e ?_
   refine W.gt' ((a.length : Int) = 0) e ?_
   refine W.gt' ((a.length : Int) = 0) e ?_
   refine W.gt' ((a.length : Int) = 0) e ?_
   refine W.gt' ((a.length : Int) = 0) e ?_
   refine W.gt' ((a.length : Int) = 0) e ?_
   refine W.opS (O.pk (decide ((a.length : Int) = 0)) true (.bool true) (.tuple []) (decide_eq_true e)) ?_
   exact W.adv 4 (W.fr (Ans.o (.bool true) (by rw [H])))
  ·refine W.gf' ((a.length : Int) = 0) e ?_
   refine W.adv 1 (W.gf' ((a.length : Int) = 0) e ?_)
   refine W.adv 1 (W.gf' ((a.length : Int) = 0) e ?_)
   refine W.adv 1 (W.gf' ((a.length : Int) = 0) e ?_)
   refine W.adv 1 (W.gf' ((a.length : Int) = 0) e ?_)
   obtain ⟨r, s, H⟩ := H
   refine W.opS (O.ixI .u64 .i64 a (wi ((a.length : Int) - 1)) r s) ?_
   refine W.gf' ((a.length : Int) = 0) e ?_
   refine W.adv 1 (W.gf' ((a.length : Int) = 0) e ?_)
   refine W.adv 1 (W.opS (O.pk (decide ((a.length : Int) = 0)) false (.bool true) (.bool (!(decide ((a.getD (wi ((a.length : Int) - 1)).toNat 0) = 0)))) (decide_eq_false e)) ?_)
   exact W.adv 4 (W.fr (Ans.o (.bool (!(decide ((a.getD (wi ((a.length : Int) - 1)).toNat 0) = 0)))) (by rw [H])))
theorem nat_May_go (H : nat_May_l0 l l (l.length : Int) 0 z) : nat_May_R l z := by
 refine W.ii Tryz.func209 ?_
 exact W.adv 14 (W.tl H)
end
theorem limb_Mul_go {c e f a g i : Int} (H : ∃ b, b = (wu ((wu ((bits .and .u64 c 4294967295) * (bits .and .u64 e 4294967295))) + (bits .and .u64 f 4294967295))) ∧ g = (bits .and .u64 (wu (b + (bits .and .u64 a 4294967295))) 4294967295) ∧ i = ((wu (b + (bits .and .u64 a 4294967295))) / 2 ^ 32)) : limb_Mul_R c e f a g i := by
 refine W.ii Tryz.func214 ?_
 refine W.adv 15 ?_
 obtain ⟨b, l, H⟩ := H
 refine W.opS (OpIs.bnN (k := .u64) (op := .add) (x := (.int .u64 (wu ((bits .and .u64 c 4294967295) * (bits .and .u64 e 4294967295))))) (y := (.int .u64 (bits .and .u64 f 4294967295))) (by kernel_rfl) l (by kernel_rfl)) ?_
 exact W.adv 17 (W.fr (Ans.o (.tuple [(.int .u64 (bits .and .u64 (wu (b + (bits .and .u64 a 4294967295))) 4294967295)), (.int .u64 ((wu (b + (bits .and .u64 a 4294967295))) / 2 ^ 32))]) (by rw [H.1, H.2])))
theorem limb_Div_go {c e a f g i : Int} (H : (bits .and .u64 a 4294967295) = 0 ∧ f = 0 ∧ g = 0 ∧ i = 3 ∨ ¬ (bits .and .u64 a 4294967295) = 0 ∧ ((bits .and .u64 a 4294967295) ≤ (bits .and .u64 c 4294967295) ∧ f = 0 ∧ g = 0 ∧ i = 2 ∨ ¬ (bits .and .u64 a 4294967295) ≤ (bits .and .u64 c 4294967295) ∧ ∃ b, b = (bits .or .u64 (wu ((bits .and .u64 c 4294967295) * 2 ^ 32)) (bits .and .u64 e 4294967295)) ∧ (bits .and .u64 a 4294967295) ≠ 0 ∧ f = (wu (b.tdiv (bits .and .u64 a 4294967295))) ∧ g = (b.tmod (bits .and .u64 a 4294967295)) ∧ i = 0)) : limb_Div_R c e a f g i := by
 refine W.ii Tryz.func217 ?_
 refine W.adv 29 ?_
 rcases H with ⟨l, H⟩ | ⟨l, H⟩
 ·refine W.ct ((bits .and .u64 a 4294967295) = 0) l ?_
  exact W.adv 10 (W.fr (Ans.o (.tuple [.int .u64 0, .int .u64 0, .int .i64 3]) (by rw [H.1, H.2.1, H.2.2])))
 ·refine W.cf ((bits .and .u64 a 4294967295) = 0) l ?_
  refine W.adv 8 ?_
  rcases H with ⟨m, H⟩ | ⟨m, H⟩
  ·refine W.ct ((bits .and .u64 a 4294967295) ≤ (bits .and .u64 c 4294967295)) m ?_
   exact W.adv 10 (W.fr (Ans.o (.tuple [.int .u64 0, .int .u64 0, .int .i64 2]) (by rw [H.1, H.2.1, H.2.2])))
  ·refine W.cf ((bits .and .u64 a 4294967295) ≤ (bits .and .u64 c 4294967295)) m ?_
   refine W.adv 8 ?_
   obtain ⟨b, p, H⟩ := H
   refine W.opS (OpIs.bnN (k := .u64) (op := .or) (x := (.int .u64 (wu ((bits .and .u64 c 4294967295) * 2 ^ 32)))) (y := (.int .u64 (bits .and .u64 e 4294967295))) (by kernel_rfl) p (by kernel_rfl)) ?_
   refine W.adv 7 ?_
   obtain ⟨n, H⟩ := H
   refine W.opS (OpIs.bn (op := .quo) (x := (.int .u64 b)) (y := (.int .u64 (bits .and .u64 a 4294967295))) (by kernel_rfl) (quoD n)) ?_
   refine W.adv 2 (W.opS (OpIs.bn (op := .rem) (x := (.int .u64 b)) (y := (.int .u64 (bits .and .u64 a 4294967295))) (by kernel_rfl) (remD n)) ?_)
   exact W.adv 6 (W.fr (Ans.o (.tuple [(.int .u64 (wu (b.tdiv (bits .and .u64 a 4294967295)))), (.int .u64 (b.tmod (bits .and .u64 a 4294967295))), .int .i64 0]) (by rw [H.1, H.2.1, H.2.2])))
section
variable (b c a e z : Int)
noncomputable def limb_Bits_l0_s (j : Nat → D) (jb : Nat → Blk) (vs : Nat → Nat) : Cf := cfAt Tryz.f218 [1, 1, 0, 1, 0] ⟨([.int .u64 b, j 1, j 2, .int .i64 c, j 4, .int .i64 a] ++ J j 6 11), (J jb 0 17)⟩
def limb_Bits_l0 : Prop := ∀ j jb vs, W C F 218 0 (limb_Bits_l0_s b c a  j jb vs) (Ans C Tryz.f218 (.int .i64 z))
variable {b c a e z}
theorem limb_Bits_l0_go (H : a < 32 ∧ 0 ≤ a ∧ ((bits .and .u64 (b / 2 ^ (min (a).toNat 64)) 1) = 1 ∧ limb_Bits_l0 b (wi (a + 1)) (wi (a + 1)) z ∨ ¬ (bits .and .u64 (b / 2 ^ (min (a).toNat 64)) 1) = 1 ∧ limb_Bits_l0 b c (wi (a + 1)) z) ∨ ¬ a < 32 ∧ (z = c)) : limb_Bits_l0 b c a z := by
 intro j jb vs
 refine W.adv 1 (W.adv 6 ?_)
 rcases H with ⟨f, H⟩ | ⟨f, H⟩
 ·refine W.ct (a < 32) f ?_
  refine W.adv 14 ?_
  obtain ⟨i, H⟩ := H
  refine W.opS (OpIs.bn (op := .shr) (x := (.int .u64 b)) (y := (.int .i64 a)) (by kernel_rfl) (shrD i)) ?_
  refine W.adv 4 ?_
  rcases H with ⟨g, H⟩ | ⟨g, H⟩
  ·refine W.ct ((bits .and .u64 (b / 2 ^ (min (a).toNat 64)) 1) = 1) g ?_
   exact W.adv 12 (W.tl H)
  ·refine W.cf ((bits .and .u64 (b / 2 ^ (min (a).toNat 64)) 1) = 1) g ?_
   exact W.adv 8 (W.tl H)
 ·refine W.cf (a < 32) f ?_
  exact W.adv 12 (W.fr (Ans.o (.int .i64 c) (by rw [H])))
theorem limb_Bits_go (H : limb_Bits_l0 e 0 0 z) : limb_Bits_R e z := by
 refine W.ii Tryz.func218 ?_
 exact W.adv 17 (W.tl H)
end
section
variable (c : Int) (p : List Int) (u a : Int) (l : List Int) (s : Nat) (f : List Int) (q : Int) (z : List Int) (aa : Int)
noncomputable def nat_Shl_l0_s (j : Nat → D) (jb : Nat → Blk) (vs : Nat → Nat) : Cf := cfAt Tryz.f219 [1, 1, 1, 0, 1, 0] ⟨([j 0, .int .i64 c] ++ (J j 2 5 ++ ([.sref 27 1 1 0 s] ++ (J j 8 20 ++ ([.ints .u64 p, .int .i64 u, .int .i64 a] ++ J j 31 29))))), (J jb 0 27 ++ ([⟨1, false, .ints .u64 l⟩] ++ J jb 28 32))⟩
def nat_Shl_l0 : Prop := ∀ s, s = l.length → ∀ j jb vs, W C F 219 0 (nat_Shl_l0_s c p u a l s j jb vs) (Ans C Tryz.f219 (.tuple [.ints .u64 z, .int .i64 aa]))
variable {c p u a l s f q z aa}
theorem nat_Shl_l0_go (H : (a < u ∧ 0 ≤ a ∧ a < (p.length : Int) ∧ 0 ≤ (c.tmod 32) ∧ 0 ≤ (wi (a + (wi (c.tdiv 32)))) ∧ (wi (a + (wi (c.tdiv 32)))) < (l.length : Int) ∧ ∃ ag, ag = ((wu ((p.getD (a).toNat 0) * 2 ^ (min (c.tmod 32).toNat 64))).tmod 4294967296) ∧ ∃ ad, ad = l.set (wi (a + (wi (c.tdiv 32)))).toNat (bits .or .u64 (l.getD (wi (a + (wi (c.tdiv 32)))).toNat 0) ag) ∧ ∃ ai, ai = ((wu ((p.getD (a).toNat 0) * 2 ^ (min (c.tmod 32).toNat 64))) / 2 ^ 32) ∧ 0 ≤ (wi ((wi (a + (wi (c.tdiv 32)))) + 1)) ∧ (wi ((wi (a + (wi (c.tdiv 32)))) + 1)) < (ad.length : Int) ∧ ∃ ae, ae = ad.set (wi ((wi (a + (wi (c.tdiv 32)))) + 1)).toNat ai ∧ nat_Shl_l0 c p u (wi (a + 1)) ae z aa) ∨ ¬ a < u ∧ ∃ ac, nat_trim_R l ac ∧ z = ac ∧ aa = 0) : nat_Shl_l0 c p u a l z aa := by
 intro s ak j jb vs
 refine W.adv 1 (W.adv 6 ?_)
 rcases H with ⟨al, H⟩ | ⟨al, H⟩
 ·refine W.ct (a < u) al ?_
  refine W.adv 7 ?_
  obtain ⟨aw, ay, H⟩ := H
  refine W.opS (O.ixI .u64 .i64 p a aw ay) ?_
  refine W.adv 19 ?_
  obtain ⟨az, H⟩ := H
  refine W.opS (OpIs.bn (op := .shl) (x := (.int .u64 (p.getD (a).toNat 0))) (y := (.int .i64 (c.tmod 32))) (by kernel_rfl) (shlD az)) ?_
  refine W.adv 7 ?_
  obtain ⟨an, ap, H⟩ := H
  refine W.opS (O.ixR .i64 27 1 1 s (wi (a + (wi (c.tdiv 32)))) an (by rw [ak]; exact ap)) ?_
  refine W.opS (OpIs.ldI (b := 27) (v := 1) (i := (wi (a + (wi (c.tdiv 32)))).toNat) (w := 1) (fz := false) (k := .u64) (xs := l) (by kernel_rfl) rfl (by omega)) ?_
  refine W.adv 1 ?_
  obtain ⟨ag, a2, H⟩ := H
  refine W.opS (OpIs.bnN (k := .u64) (op := .rem) (x := (.int .u64 (wu ((p.getD (a).toNat 0) * 2 ^ (min (c.tmod 32).toNat 64))))) (y := (.int .u64 4294967296)) (by kernel_rfl) a2 (by kernel_rfl)) ?_
  refine W.adv 1 (W.opS (O.ixR .i64 27 1 1 s (wi (a + (wi (c.tdiv 32)))) an (by rw [ak]; exact ap)) ?_)
  obtain ⟨ad, aq, H⟩ := H
  have ar : s = ad.length := by rw [aq, List.length_set] <;> exact ak
  refine W.opH (OpIs.stN (b := 27) (v := 1) (i := (wi (a + (wi (c.tdiv 32)))).toNat) (w := 1) (k := .u64) (xs := l) (n := (bits .or .u64 (l.getD (wi (a + (wi (c.tdiv 32)))).toNat 0) ag)) (by kernel_rfl) aq rfl (by omega)) ?_
  refine W.adv 7 ?_
  obtain ⟨ai, a3, H⟩ := H
  refine W.opS (OpIs.bnN (k := .u64) (op := .shr) (x := (.int .u64 (wu ((p.getD (a).toNat 0) * 2 ^ (min (c.tmod 32).toNat 64))))) (y := (.int .u64 32)) (by kernel_rfl) a3 (by kernel_rfl)) ?_
  obtain ⟨a4, a5, H⟩ := H
  refine W.opS (O.ixR .i64 27 1 1 s (wi ((wi (a + (wi (c.tdiv 32)))) + 1)) a4 (by rw [ar]; exact a5)) ?_
  obtain ⟨ae, au, H⟩ := H
  have a6 : s = ae.length := by rw [au, List.length_set] <;> exact ar
  refine W.opH (OpIs.stN (b := 27) (v := 1) (i := (wi ((wi (a + (wi (c.tdiv 32)))) + 1)).toNat) (w := 1) (k := .u64) (xs := ad) (n := ai) (by kernel_rfl) au rfl (by omega)) ?_
  exact W.adv 8 (W.tl (H _ a6))
 ·refine W.cf (a < u) al ?_
  refine W.adv 8 ?_
  obtain ⟨ac, a7, H⟩ := H
  refine W.callR (g := 183) (ds := [.sref 27 1 1 0 s]) (es := [.ints .u64 l]) (r := (.ints .u64 ac)) (by kernel_rfl) (rf_cons (rf_full (b := 27) (v := 1) (w := 1) (fz := false) (k := .u64) (xs := l) (by kernel_rfl) rfl ak) rf_nil) (Ic.args a7 (by kernel_rfl)) (by kernel_rfl) ?_
  exact W.adv 5 (W.fr (Ans.o (.tuple [.ints .u64 ac, .int .i64 0]) (by rw [H.1, H.2])))
theorem nat_Shl_go (H : ∃ e, nat_shift_R q e ∧ (e = 0 ∧ ((f.length : Int) = 0 ∧ z = [] ∧ aa = e ∨ ¬ (f.length : Int) = 0 ∧ 0 ≤ (wi ((wi ((f.length : Int) + (wi (q.tdiv 32)))) + 1)) ∧ 8 * (wi ((wi ((f.length : Int) + (wi (q.tdiv 32)))) + 1)) ≤ 140737488351232 ∧ ∃ af, af = List.replicate (wi ((wi ((f.length : Int) + (wi (q.tdiv 32)))) + 1)).toNat 0 ∧ nat_Shl_l0 q f (f.length : Int) 0 af z aa) ∨ ¬ e = 0 ∧ z = [] ∧ aa = e)) : nat_Shl_R f q z aa := by
 refine W.ii Tryz.func219 ?_
 refine W.adv 10 ?_
 obtain ⟨e, a8, H⟩ := H
 refine W.cl 224 [.int .i64 q] (.int .i64 e) a8 ?_
 refine W.adv 8 ?_
 rcases H with ⟨ab, H⟩ | ⟨ab, H⟩
 ·refine W.gb true ((!(decide (e = 0))) == false) (congrArg (fun b => b == false) (congrArg (fun b => !b) (decide_eq_true ab))) ?_
  refine W.adv 1 (W.gb true ((!(decide (e = 0))) == false) (congrArg (fun b => b == false) (congrArg (fun b => !b) (decide_eq_true ab))) ?_)
  refine W.adv 1 (W.gb true ((!(decide (e = 0))) == false) (congrArg (fun b => b == false) (congrArg (fun b => !b) (decide_eq_true ab))) ?_)
  refine W.adv 1 (W.opS (O.pk (!(decide (e = 0))) false (.bool true) (.bool (decide ((f.length : Int) = 0))) (congrArg (fun b => !b) (decide_eq_true ab))) ?_)
  refine W.adv 2 ?_
  rcases H with ⟨am, H⟩ | ⟨am, H⟩
  ·refine W.ct ((f.length : Int) = 0) am ?_
   exact W.adv 9 (W.fr (Ans.q (.tuple [.ints .u64 [], .int .i64 e]) (by rw [H.1, H.2])))
  ·refine W.cf ((f.length : Int) = 0) am ?_
   refine W.adv 10 ?_
   obtain ⟨a9, ba, H⟩ := H
   obtain ⟨af, av, H⟩ := H
   have bb : (wi ((wi ((f.length : Int) + (wi (q.tdiv 32)))) + 1)).toNat = af.length := by rw [av, List.length_replicate]
   refine W.opH (OpIs.msN (k1 := .i64) (k2 := .i64) (k := .u64) (n := (wi ((wi ((f.length : Int) + (wi (q.tdiv 32)))) + 1))) (m := (wi ((wi ((f.length : Int) + (wi (q.tdiv 32)))) + 1))) (y := 8) (b := 27) (v := 0) (by kernel_rfl) av a9 (Int.le_refl _) ba (by omega)) ?_
   exact W.adv 12 (W.tl (P := nat_Shl_l0_s q f (f.length : Int) 0 af ((wi ((wi ((f.length : Int) + (wi (q.tdiv 32)))) + 1)).toNat)) (H _ bb))
 ·refine W.gb false ((!(decide (e = 0))) == false) (congrArg (fun b => b == false) (congrArg (fun b => !b) (decide_eq_false ab))) ?_
  refine W.gb false ((!(decide (e = 0))) == false) (congrArg (fun b => b == false) (congrArg (fun b => !b) (decide_eq_false ab))) ?_
  refine W.gb false ((!(decide (e = 0))) == false) (congrArg (fun b => b == false) (congrArg (fun b => !b) (decide_eq_false ab))) ?_
  refine W.opS (O.pk (!(decide (e = 0))) true (.bool true) (.tuple []) (congrArg (fun b => !b) (decide_eq_false ab))) ?_
  exact W.adv 12 (W.fr (Ans.q (.tuple [.ints .u64 [], .int .i64 e]) (by rw [H.1, H.2])))
end
section
variable (p : List Int) (f u c : Int) (s : List Int) (ab : Nat) (l : List Int) (e : Int) (z : List Int) (aa : Int)
noncomputable def nat_Shr_l0_s (j : Nat → D) (jb : Nat → Blk) (vs : Nat → Nat) : Cf := cfAt Tryz.f223 [1, 1, 1, 0, 1, 0] ⟨([.ints .u64 p, .int .i64 f] ++ (J j 2 5 ++ ([.sref 27 1 1 0 ab] ++ (J j 8 21 ++ ([.int .i64 u, .int .i64 c] ++ J j 31 26))))), (J jb 0 27 ++ ([⟨1, false, .ints .u64 s⟩] ++ J jb 28 29))⟩
def nat_Shr_l0 : Prop := ∀ ab, ab = s.length → ∀ j jb vs, W C F 223 0 (nat_Shr_l0_s p f u c s ab j jb vs) (Ans C Tryz.f223 (.tuple [.ints .u64 z, .int .i64 aa]))
variable {p f u c s ab l e z aa}
theorem nat_Shr_l0_go (H : (c < u ∧ 0 ≤ (wi (c + (wi (f.tdiv 32)))) ∧ (wi (c + (wi (f.tdiv 32)))) < (p.length : Int) ∧ ∃ ae, nat_at_R p (wi ((wi (c + (wi (f.tdiv 32)))) + 1)) ae ∧ ∃ af, af = (bits .or .u64 (p.getD (wi (c + (wi (f.tdiv 32)))).toNat 0) (wu (ae * 2 ^ 32))) ∧ 0 ≤ (f.tmod 32) ∧ 0 ≤ c ∧ c < (s.length : Int) ∧ ∃ ag, ag = s.set (c).toNat ((af / 2 ^ (min (f.tmod 32).toNat 64)).tmod 4294967296) ∧ nat_Shr_l0 p f u (wi (c + 1)) ag z aa) ∨ ¬ c < u ∧ ∃ ad, nat_trim_R s ad ∧ z = ad ∧ aa = 0) : nat_Shr_l0 p f u c s z aa := by
 intro ab ai j jb vs
 refine W.adv 1 (W.adv 6 ?_)
 rcases H with ⟨ak, H⟩ | ⟨ak, H⟩
 ·refine W.ct (c < u) ak ?_
  refine W.adv 24 ?_
  obtain ⟨aq, ar, H⟩ := H
  refine W.opS (O.ixI .u64 .i64 p (wi (c + (wi (f.tdiv 32)))) aq ar) ?_
  refine W.adv 4 ?_
  obtain ⟨ae, au, H⟩ := H
  refine W.cl 182 [.ints .u64 p, (.int .i64 (wi ((wi (c + (wi (f.tdiv 32)))) + 1)))] (.int .u64 ae) au ?_
  refine W.adv 1 ?_
  obtain ⟨af, av, H⟩ := H
  refine W.opS (OpIs.bnN (k := .u64) (op := .or) (x := (.int .u64 (p.getD (wi (c + (wi (f.tdiv 32)))).toNat 0))) (y := (.int .u64 (wu (ae * 2 ^ 32)))) (by kernel_rfl) av (by kernel_rfl)) ?_
  refine W.adv 2 ?_
  obtain ⟨aw, H⟩ := H
  refine W.opS (OpIs.bn (op := .shr) (x := (.int .u64 af)) (y := (.int .i64 (f.tmod 32))) (by kernel_rfl) (shrD aw)) ?_
  refine W.adv 1 ?_
  obtain ⟨ay, az, H⟩ := H
  refine W.opS (O.ixR .i64 27 1 1 ab c ay (by rw [ai]; exact az)) ?_
  obtain ⟨ag, am, H⟩ := H
  have a2 : ab = ag.length := by rw [am, List.length_set] <;> exact ai
  refine W.opH (OpIs.stN (b := 27) (v := 1) (i := (c).toNat) (w := 1) (k := .u64) (xs := s) (n := ((af / 2 ^ (min (f.tmod 32).toNat 64)).tmod 4294967296)) (by kernel_rfl) am rfl (by omega)) ?_
  exact W.adv 8 (W.tl (H _ a2))
 ·refine W.cf (c < u) ak ?_
  refine W.adv 8 ?_
  obtain ⟨ad, a3, H⟩ := H
  refine W.callR (g := 183) (ds := [.sref 27 1 1 0 ab]) (es := [.ints .u64 s]) (r := (.ints .u64 ad)) (by kernel_rfl) (rf_cons (rf_full (b := 27) (v := 1) (w := 1) (fz := false) (k := .u64) (xs := s) (by kernel_rfl) rfl ai) rf_nil) (Ic.args a3 (by kernel_rfl)) (by kernel_rfl) ?_
  exact W.adv 5 (W.fr (Ans.o (.tuple [.ints .u64 ad, .int .i64 0]) (by rw [H.1, H.2])))
theorem nat_Shr_go (H : ∃ a, nat_shift_R e a ∧ (a = 0 ∧ ((l.length : Int) ≤ (wi (e.tdiv 32)) ∧ z = [] ∧ aa = a ∨ ¬ (l.length : Int) ≤ (wi (e.tdiv 32)) ∧ 0 ≤ (wi ((l.length : Int) - (wi (e.tdiv 32)))) ∧ 8 * (wi ((l.length : Int) - (wi (e.tdiv 32)))) ≤ 140737488351232 ∧ ∃ ac, ac = List.replicate (wi ((l.length : Int) - (wi (e.tdiv 32)))).toNat 0 ∧ nat_Shr_l0 l e (ac.length : Int) 0 ac z aa) ∨ ¬ a = 0 ∧ z = [] ∧ aa = a)) : nat_Shr_R l e z aa := by
 refine W.ii Tryz.func223 ?_
 refine W.adv 10 ?_
 obtain ⟨a, a4, H⟩ := H
 refine W.cl 224 [.int .i64 e] (.int .i64 a) a4 ?_
 refine W.adv 8 ?_
 rcases H with ⟨q, H⟩ | ⟨q, H⟩
 ·refine W.gb true ((!(decide (a = 0))) == false) (congrArg (fun b => b == false) (congrArg (fun b => !b) (decide_eq_true q))) ?_
  refine W.adv 1 (W.gb true ((!(decide (a = 0))) == false) (congrArg (fun b => b == false) (congrArg (fun b => !b) (decide_eq_true q))) ?_)
  refine W.adv 1 (W.gb true ((!(decide (a = 0))) == false) (congrArg (fun b => b == false) (congrArg (fun b => !b) (decide_eq_true q))) ?_)
  refine W.adv 1 (W.gb true ((!(decide (a = 0))) == false) (congrArg (fun b => b == false) (congrArg (fun b => !b) (decide_eq_true q))) ?_)
  refine W.adv 1 (W.gb true ((!(decide (a = 0))) == false) (congrArg (fun b => b == false) (congrArg (fun b => !b) (decide_eq_true q))) ?_)
  refine W.adv 1 (W.opS (O.pk (!(decide (a = 0))) false (.bool true) (.bool (decide ((l.length : Int) ≤ (wi (e.tdiv 32))))) (congrArg (fun b => !b) (decide_eq_true q))) ?_)
  refine W.adv 2 ?_
  rcases H with ⟨al, H⟩ | ⟨al, H⟩
  ·refine W.ct ((l.length : Int) ≤ (wi (e.tdiv 32))) al ?_
   exact W.adv 9 (W.fr (Ans.q (.tuple [.ints .u64 [], .int .i64 a]) (by rw [H.1, H.2])))
  ·refine W.cf ((l.length : Int) ≤ (wi (e.tdiv 32))) al ?_
   refine W.adv 9 ?_
   obtain ⟨a5, a6, H⟩ := H
   obtain ⟨ac, an, H⟩ := H
   have ap : (wi ((l.length : Int) - (wi (e.tdiv 32)))).toNat = ac.length := by rw [an, List.length_replicate]
   refine W.opH (OpIs.msN (k1 := .i64) (k2 := .i64) (k := .u64) (n := (wi ((l.length : Int) - (wi (e.tdiv 32))))) (m := (wi ((l.length : Int) - (wi (e.tdiv 32))))) (y := 8) (b := 27) (v := 0) (by kernel_rfl) an a5 (Int.le_refl _) a6 (by omega)) ?_
   refine W.adv 7 (W.opS (OpIs.ln (n := (wi ((l.length : Int) - (wi (e.tdiv 32)))).toNat) (m := ac.length) (by kernel_rfl) ap) ?_)
   exact W.adv 4 (W.tl (P := nat_Shr_l0_s l e (ac.length : Int) 0 ac ((wi ((l.length : Int) - (wi (e.tdiv 32)))).toNat)) (H _ ap))
 ·refine W.gb false ((!(decide (a = 0))) == false) (congrArg (fun b => b == false) (congrArg (fun b => !b) (decide_eq_false q))) ?_
  refine W.gb false ((!(decide (a = 0))) == false) (congrArg (fun b => b == false) (congrArg (fun b => !b) (decide_eq_false q))) ?_
  refine W.gb false ((!(decide (a = 0))) == false) (congrArg (fun b => b == false) (congrArg (fun b => !b) (decide_eq_false q))) ?_
  refine W.gb false ((!(decide (a = 0))) == false) (congrArg (fun b => b == false) (congrArg (fun b => !b) (decide_eq_false q))) ?_
  refine W.gb false ((!(decide (a = 0))) == false) (congrArg (fun b => b == false) (congrArg (fun b => !b) (decide_eq_false q))) ?_
  refine W.opS (O.pk (!(decide (a = 0))) true (.bool true) (.tuple []) (congrArg (fun b => !b) (decide_eq_false q))) ?_
  exact W.adv 12 (W.fr (Ans.q (.tuple [.ints .u64 [], .int .i64 a]) (by rw [H.1, H.2])))
end
theorem nat_shift_go {a z : Int} (H : a < 0 ∧ (z = 2) ∨ ¬ a < 0 ∧ (100000 < a ∧ (z = 2) ∨ ¬ 100000 < a ∧ (z = 0))) : nat_shift_R a z := by
 refine W.ii Tryz.func224 ?_
 refine W.adv 11 ?_
 rcases H with ⟨c, H⟩ | ⟨c, H⟩
 ·refine W.gt' (a < 0) c ?_
  refine W.gt' (a < 0) c ?_
  refine W.opS (O.pk (decide (a < 0)) true (.bool true) (.tuple []) (decide_eq_true c)) ?_
  exact W.adv 10 (W.fr (Ans.o (.int .i64 2) (by rw [H])))
 ·refine W.gf' (a < 0) c ?_
  refine W.adv 1 (W.gf' (a < 0) c ?_)
  refine W.adv 1 (W.opS (O.pk (decide (a < 0)) false (.bool true) (.bool (decide (100000 < a))) (decide_eq_false c)) ?_)
  refine W.adv 2 ?_
  rcases H with ⟨e, H⟩ | ⟨e, H⟩
  ·refine W.ct (100000 < a) e ?_
   exact W.adv 7 (W.fr (Ans.o (.int .i64 2) (by rw [H])))
  ·refine W.cf (100000 < a) e ?_
   exact W.adv 8 (W.fr (Ans.o (.int .i64 0) (by rw [H])))
end Go.Proofs.YtjcdkemnflmfiaaGreatA
