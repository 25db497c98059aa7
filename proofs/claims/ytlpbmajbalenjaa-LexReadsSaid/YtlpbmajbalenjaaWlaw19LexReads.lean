/- Walks through the functions: what makes each relation true. -/
import Derived.Test.YtlpbmajbalenjaaW0
set_option linter.unusedVariables false
set_option maxRecDepth 100000
namespace Go.Proofs.YtlpbmajbalenjaaA
open Go Go.Proofs
section
variable (f : List T_law19_Act) (e : List T_ref19_Token) (bl q k bg ab : Int) (ae bm bn : ByteArray) (b8 bv : Bool) (l : List T_ref19_Token) (c p : Int) (u : List T_lex_Token) (aa : Int) (bb : ByteArray) (cl : List T_law19_Act) (z : Bool)
noncomputable def law19_LexReads_l0_s (j : Nat → D) (jb : Nat → Blk) (vs : Nat → Nat) : Cf := cfAt Try.f6 [1, 1, 1, 1, 1] ⟨([j 0, (.list 2 (f.map E_law19_Act)), j 2, j 3, j 4, .nilP, j 6, j 7, (.list 3 (e.map E_ref19_Token)), .int .i64 bl, .int .i64 q] ++ J j 11 171), (J jb 0 182)⟩
def law19_LexReads_l0 : Prop := ∀ j jb vs, W C F 6 0 (law19_LexReads_l0_s f e bl q  j jb vs) (LAns C Try.f6 z)
noncomputable def law19_LexReads_l1_s (j : Nat → D) (jb : Nat → Blk) (vs : Nat → Nat) : Cf := cfAt Try.f6 [1, 1, 1, 1, 1] ⟨([j 0, (.list 2 (f.map E_law19_Act)), j 2, j 3, j 4, (.pref 203 ((vs 203) + 1) 0 0), j 6, j 7, (.list 3 (e.map E_ref19_Token)), .int .i64 bl, .int .i64 q] ++ J j 11 171), (J jb 0 203 ++ [⟨((vs 203) + 1), false, .rows 2 [(.agg [(.list 3 (u.map E_lex_Token)), .int .i64 aa])]⟩, jb 204, jb 205])⟩
def law19_LexReads_l1 : Prop := ∀ j jb vs, W C F 6 0 (law19_LexReads_l1_s f e bl q u aa  j jb vs) (LAns C Try.f6 z)
noncomputable def law19_LexReads_l2_s (j : Nat → D) (jb : Nat → Blk) (vs : Nat → Nat) : Cf := cfAt Try.f6 [1, 1, 1, 1, 1, 1, 0, 1, 0] ⟨([j 0, (.list 2 (f.map E_law19_Act)), j 2, j 3, j 4, .nilP, j 6, j 7, (.list 3 (e.map E_ref19_Token)), j 9, .int .i64 q, (.pref 54 ((vs 54) + 1) 0 0), .int .i64 k] ++ J j 13 169), (J jb 0 54 ++ ([⟨((vs 54) + 1), false, .rows 3 [(.agg [(.list 3 (l.map E_ref19_Token)), .int .i64 c, .int .i64 p])]⟩] ++ J jb 55 127))⟩
def law19_LexReads_l2 : Prop := ∀ j jb vs, W C F 6 0 (law19_LexReads_l2_s f e q k l c p  j jb vs) (LAns C Try.f6 z)
noncomputable def law19_LexReads_l3_s (j : Nat → D) (jb : Nat → Blk) (vs : Nat → Nat) : Cf := cfAt Try.f6 [1, 1, 1, 1, 1, 1, 0, 1, 0] ⟨([j 0, (.list 2 (f.map E_law19_Act)), j 2, j 3, j 4, (.pref 203 ((vs 203) + 1) 0 0), j 6, j 7, (.list 3 (e.map E_ref19_Token)), j 9, .int .i64 q, (.pref 54 ((vs 54) + 1) 0 0), .int .i64 k] ++ J j 13 169), (J jb 0 54 ++ ([⟨((vs 54) + 1), false, .rows 3 [(.agg [(.list 3 (l.map E_ref19_Token)), .int .i64 c, .int .i64 p])]⟩] ++ (J jb 55 148 ++ [⟨((vs 203) + 1), false, .rows 2 [(.agg [(.list 3 (u.map E_lex_Token)), .int .i64 aa])]⟩, jb 204, jb 205])))⟩
def law19_LexReads_l3 : Prop := ∀ j jb vs, W C F 6 0 (law19_LexReads_l3_s f e q k l c p u aa  j jb vs) (LAns C Try.f6 z)
noncomputable def law19_LexReads_l4_s (j : Nat → D) (jb : Nat → Blk) (vs : Nat → Nat) : Cf := cfAt Try.f6 [1, 1, 1, 1, 1, 1, 0, 1, 0, 0, 1] ⟨([j 0, (.list 2 (f.map E_law19_Act)), j 2, j 3, j 4, .nilP, j 6, j 7, (.list 3 (e.map E_ref19_Token)), j 9, .int .i64 q, (.pref 54 ((vs 54) + 1) 0 0), .int .i64 k] ++ J j 13 169), (J jb 0 54 ++ ([⟨((vs 54) + 1), false, .rows 3 [(.agg [(.list 3 (l.map E_ref19_Token)), .int .i64 c, .int .i64 p])]⟩] ++ J jb 55 127))⟩
def law19_LexReads_l4 : Prop := ∀ j jb vs, W C F 6 0 (law19_LexReads_l4_s f e q k l c p  j jb vs) (LAns C Try.f6 z)
noncomputable def law19_LexReads_l5_s  (j : Nat → D) (jb : Nat → Blk) (vs : Nat → Nat) : Cf := cfAt Try.f6 [1, 1, 1, 1, 1, 1, 1] ⟨(J j 0 182), (J jb 0 182)⟩
def law19_LexReads_l5 : Prop := ∀ j jb vs, W C F 6 0 (law19_LexReads_l5_s   j jb vs) (LAns C Try.f6 z)
noncomputable def law19_LexReads_l6_s (j : Nat → D) (jb : Nat → Blk) (vs : Nat → Nat) : Cf := cfAt Try.f6 [1, 1, 1, 1, 1, 1, 0, 1, 0, 0, 1] ⟨([j 0, (.list 2 (f.map E_law19_Act)), j 2, j 3, j 4, (.pref 203 ((vs 203) + 1) 0 0), j 6, j 7, (.list 3 (e.map E_ref19_Token)), j 9, .int .i64 q, (.pref 54 ((vs 54) + 1) 0 0), .int .i64 k] ++ J j 13 169), (J jb 0 54 ++ ([⟨((vs 54) + 1), false, .rows 3 [(.agg [(.list 3 (l.map E_ref19_Token)), .int .i64 c, .int .i64 p])]⟩] ++ (J jb 55 148 ++ [⟨((vs 203) + 1), false, .rows 2 [(.agg [(.list 3 (u.map E_lex_Token)), .int .i64 aa])]⟩, jb 204, jb 205])))⟩
def law19_LexReads_l6 : Prop := ∀ j jb vs, W C F 6 0 (law19_LexReads_l6_s f e q k l c p u aa  j jb vs) (LAns C Try.f6 z)
noncomputable def law19_LexReads_l7_s  (j : Nat → D) (jb : Nat → Blk) (vs : Nat → Nat) : Cf := cfAt Try.f6 [1, 1, 1, 1, 1, 1, 1] ⟨(J j 0 182), (J jb 0 206)⟩
def law19_LexReads_l7 : Prop := ∀ j jb vs, W C F 6 0 (law19_LexReads_l7_s   j jb vs) (LAns C Try.f6 z)
noncomputable def law19_LexReads_l9_s (j : Nat → D) (jb : Nat → Blk) (vs : Nat → Nat) : Cf := cfAt Try.f6 [1, 1, 1, 1, 1, 1, 0, 1, 0, 0, 1, 0, 0, 1, 1] ⟨([j 0, (.list 2 (f.map E_law19_Act)), j 2, j 3, j 4, (.pref 203 ((vs 203) + 1) 0 0), j 6, j 7, (.list 3 (e.map E_ref19_Token)), j 9, .int .i64 q, (.pref 54 ((vs 54) + 1) 0 0), .int .i64 k, (.pref 13 ((vs 13) + 1) 0 0)] ++ J j 14 168), (J jb 0 13 ++ ([⟨((vs 13) + 1), false, .rows 2 [(.agg [.int .i64 ab, .str ae])]⟩] ++ (J jb 14 40 ++ ([⟨((vs 54) + 1), false, .rows 3 [(.agg [(.list 3 (l.map E_ref19_Token)), .int .i64 c, .int .i64 p])]⟩] ++ (J jb 55 148 ++ [⟨((vs 203) + 1), false, .rows 2 [(.agg [(.list 3 (u.map E_lex_Token)), .int .i64 aa])]⟩, jb 204, jb 205])))))⟩
def law19_LexReads_l9 : Prop := ∀ j jb vs, W C F 6 0 (law19_LexReads_l9_s f e q k ab ae l c p u aa  j jb vs) (LAns C Try.f6 z)
noncomputable def law19_LexReads_l11_s (j : Nat → D) (jb : Nat → Blk) (vs : Nat → Nat) : Cf := cfAt Try.f6 [1, 1, 1, 1, 1, 1, 0, 1, 0, 0, 1, 0, 0, 1, 1, 1, 1] ⟨([j 0, (.list 2 (f.map E_law19_Act)), j 2, j 3, j 4, (.pref 203 ((vs 203) + 1) 0 0), j 6, j 7, (.list 3 (e.map E_ref19_Token)), j 9, .int .i64 q, (.pref 54 ((vs 54) + 1) 0 0), .int .i64 k, (.pref 13 ((vs 13) + 1) 0 0), .int .i64 bg] ++ J j 15 167), (J jb 0 13 ++ ([⟨((vs 13) + 1), false, .rows 2 [(.agg [.int .i64 ab, .str ae])]⟩] ++ (J jb 14 40 ++ ([⟨((vs 54) + 1), false, .rows 3 [(.agg [(.list 3 (l.map E_ref19_Token)), .int .i64 c, .int .i64 p])]⟩] ++ (J jb 55 148 ++ [⟨((vs 203) + 1), false, .rows 2 [(.agg [(.list 3 (u.map E_lex_Token)), .int .i64 aa])]⟩, jb 204, jb 205])))))⟩
def law19_LexReads_l11 : Prop := ∀ j jb vs, W C F 6 0 (law19_LexReads_l11_s f e q k bg ab ae l c p u aa  j jb vs) (LAns C Try.f6 z)
noncomputable def law19_LexReads_l12_s (j : Nat → D) (jb : Nat → Blk) (vs : Nat → Nat) : Cf := cfAt Try.f6 [1, 1, 1, 1, 1, 1, 0, 1, 0, 0, 1, 0, 0, 1, 1, 1, 1, 1, 1] ⟨([j 0, (.list 2 (f.map E_law19_Act)), j 2, j 3, j 4, (.pref 203 ((vs 203) + 1) 0 0), j 6, j 7, (.list 3 (e.map E_ref19_Token)), j 9, .int .i64 q, (.pref 54 ((vs 54) + 1) 0 0), .int .i64 k, j 13, j 14, .str bm, .str bn, .bool b8, .bool bv] ++ J j 19 163), (J jb 0 54 ++ ([⟨((vs 54) + 1), false, .rows 3 [(.agg [(.list 3 (l.map E_ref19_Token)), .int .i64 c, .int .i64 p])]⟩] ++ (J jb 55 148 ++ [⟨((vs 203) + 1), false, .rows 2 [(.agg [(.list 3 (u.map E_lex_Token)), .int .i64 aa])]⟩, jb 204, jb 205])))⟩
def law19_LexReads_l12 : Prop := ∀ j jb vs, W C F 6 0 (law19_LexReads_l12_s f e q k bm bn b8 bv l c p u aa  j jb vs) (LAns C Try.f6 z)
noncomputable def law19_LexReads_l13_s (j : Nat → D) (jb : Nat → Blk) (vs : Nat → Nat) : Cf := cfAt Try.f6 [1, 1, 1, 1, 1, 1, 0, 1, 0, 0, 1, 1] ⟨([j 0, (.list 2 (f.map E_law19_Act)), j 2, j 3, j 4, (.pref 203 ((vs 203) + 1) 0 0), j 6, j 7, (.list 3 (e.map E_ref19_Token)), j 9, .int .i64 q, (.pref 54 ((vs 54) + 1) 0 0), .int .i64 k] ++ J j 13 169), (J jb 0 54 ++ ([⟨((vs 54) + 1), false, .rows 3 [(.agg [(.list 3 (l.map E_ref19_Token)), .int .i64 c, .int .i64 p])]⟩] ++ (J jb 55 148 ++ [⟨((vs 203) + 1), false, .rows 2 [(.agg [(.list 3 (u.map E_lex_Token)), .int .i64 aa])]⟩, jb 204, jb 205])))⟩
def law19_LexReads_l13 : Prop := ∀ j jb vs, W C F 6 0 (law19_LexReads_l13_s f e q k l c p u aa  j jb vs) (LAns C Try.f6 z)
variable {f e bl q k bg ab ae bm bn b8 bv l c p u aa bb cl z}
theorem law19_LexReads_l0_go (H : law19_LexReads_l2 f e q 0 e 0 bl z) : law19_LexReads_l0 f e bl q z := by
 intro j jb vs
 exact W.adv 16 (W.tl H)
theorem law19_LexReads_l1_go (H : law19_LexReads_l3 f e q 0 e 0 bl u aa z) : law19_LexReads_l1 f e bl q u aa z := by
 intro j jb vs
 exact W.adv 16 (W.tl H)
theorem law19_LexReads_l2_go (H : k < (f.length : Int) ∧ (k < 40 ∧ (q = 0 ∧ law19_LexReads_l4 f e q k l c p z ∨ ¬ q = 0 ∧ law19_LexReads_l5 z) ∨ ¬ k < 40 ∧ law19_LexReads_l5 z) ∨ ¬ k < (f.length : Int) ∧ law19_LexReads_l5 z) : law19_LexReads_l2 f e q k l c p z := by
 intro j jb vs
 refine W.adv 1 (W.adv 5 ?_)
 refine W.opS (O.ln f E_law19_Act) ?_
 refine W.adv 2 ?_
 rcases H with ⟨cd, H⟩ | ⟨cd, H⟩
 ·refine W.gt (k < (f.length : Int)) cd ?_
  refine W.adv 1 (W.gt (k < (f.length : Int)) cd ?_)
  refine W.adv 1 (W.opS (O.pk (decide (k < (f.length : Int))) true (.bool (decide (k < 40))) (.bool false) (decide_eq_true cd)) ?_)
  refine W.adv 1 ?_
  rcases H with ⟨ce, H⟩ | ⟨ce, H⟩
  ·refine W.gt (k < 40) ce ?_
   refine W.adv 1 (W.gt (k < 40) ce ?_)
   refine W.adv 1 (W.opS (O.pk (decide (k < 40)) true (.bool (decide (q = 0))) (.bool false) (decide_eq_true ce)) ?_)
   refine W.adv 2 ?_
   rcases H with ⟨da, H⟩ | ⟨da, H⟩
   ·refine W.ct (q = 0) da ?_
    exact W.adv 2 (W.tl H)
   ·refine W.cf (q = 0) da ?_
    exact W.adv 5 (W.tl H)
  ·refine W.gf (k < 40) ce ?_
   refine W.gf (k < 40) ce ?_
   refine W.opS (O.pk (decide (k < 40)) false (.tuple []) (.bool false) (decide_eq_false ce)) ?_
   exact W.adv 8 (W.tl H)
 ·refine W.gf (k < (f.length : Int)) cd ?_
  refine W.gf (k < (f.length : Int)) cd ?_
  refine W.opS (O.pk (decide (k < (f.length : Int))) false (.tuple []) (.bool false) (decide_eq_false cd)) ?_
  exact W.adv 12 (W.tl H)
theorem law19_LexReads_l3_go (H : k < (f.length : Int) ∧ (k < 40 ∧ (q = 0 ∧ law19_LexReads_l6 f e q k l c p u aa z ∨ ¬ q = 0 ∧ law19_LexReads_l7 z) ∨ ¬ k < 40 ∧ law19_LexReads_l7 z) ∨ ¬ k < (f.length : Int) ∧ law19_LexReads_l7 z) : law19_LexReads_l3 f e q k l c p u aa z := by
 intro j jb vs
 refine W.adv 1 (W.adv 5 ?_)
 refine W.opS (O.ln f E_law19_Act) ?_
 refine W.adv 2 ?_
 rcases H with ⟨cf, H⟩ | ⟨cf, H⟩
 ·refine W.gt (k < (f.length : Int)) cf ?_
  refine W.adv 1 (W.gt (k < (f.length : Int)) cf ?_)
  refine W.adv 1 (W.opS (O.pk (decide (k < (f.length : Int))) true (.bool (decide (k < 40))) (.bool false) (decide_eq_true cf)) ?_)
  refine W.adv 1 ?_
  rcases H with ⟨cg, H⟩ | ⟨cg, H⟩
  ·refine W.gt (k < 40) cg ?_
   refine W.adv 1 (W.gt (k < 40) cg ?_)
   refine W.adv 1 (W.opS (O.pk (decide (k < 40)) true (.bool (decide (q = 0))) (.bool false) (decide_eq_true cg)) ?_)
   refine W.adv 2 ?_
   rcases H with ⟨db, H⟩ | ⟨db, H⟩
   ·refine W.ct (q = 0) db ?_
    exact W.adv 2 (W.tl H)
   ·refine W.cf (q = 0) db ?_
    exact W.adv 5 (W.tl H)
  ·refine W.gf (k < 40) cg ?_
   refine W.gf (k < 40) cg ?_
   refine W.opS (O.pk (decide (k < 40)) false (.tuple []) (.bool false) (decide_eq_false cg)) ?_
   exact W.adv 8 (W.tl H)
 ·refine W.gf (k < (f.length : Int)) cf ?_
  refine W.gf (k < (f.length : Int)) cf ?_
  refine W.opS (O.pk (decide (k < (f.length : Int))) false (.tuple []) (.bool false) (decide_eq_false cf)) ?_
  exact W.adv 12 (W.tl H)
theorem law19_LexReads_l5_go (H : ∃ cp, law19_works_R cp ∧ (z = cp)) : law19_LexReads_l5 z := by
 intro j jb vs
 refine W.adv 2 ?_
 obtain ⟨cp, ey, H⟩ := H
 refine W.cl 15 [] (.bool cp) ey ?_
 exact W.adv 4 (W.fr (LAns.of (d := (.bool cp)) (by kernel_rfl) (by rw [H])))
theorem law19_LexReads_l6_go (H : 0 ≤ k ∧ k < (f.length : Int) ∧ ∃ be ad, f.getD (k).toNat (0, ByteArray.empty) = (be, ad) ∧ ∃ ay, __lex_Reader__Done_v1_R u aa ay ∧ (ay = true ∧ ((c = (e.length : Int) ∧ ∃ al, __lex_Reader__Line_v1_R u aa al ∧ ∃ am, __ref19_Reader__Line_v0_R l c p am ∧ ((al = am ∧ ∃ br, __lex_Reader__Is_v1_R u aa ad br ∧ ((c < (e.length : Int) ∧ 0 ≤ c ∧ ∃ dp b2 dq, e.getD (c).toNat (0, ByteArray.empty, 0) = (dp, b2, dq) ∧ (br = true ∧ (b2 = ad ∧ law19_LexReads_l9 f e q k be ad l c p u aa z ∨ ¬ b2 = ad ∧ (z = false)) ∨ ¬ br = true ∧ (b2 = ad ∧ (z = false) ∨ ¬ b2 = ad ∧ law19_LexReads_l9 f e q k be ad l c p u aa z))) ∨ ¬ c < (e.length : Int) ∧ (br = true ∧ (z = false) ∨ ¬ br = true ∧ law19_LexReads_l9 f e q k be ad l c p u aa z))) ∨ ¬ al = am ∧ (z = false))) ∨ ¬ c = (e.length : Int) ∧ (z = false)) ∨ ¬ ay = true ∧ (c = (e.length : Int) ∧ (z = false) ∨ ¬ c = (e.length : Int) ∧ ∃ an, __lex_Reader__Line_v1_R u aa an ∧ ∃ ap, __ref19_Reader__Line_v0_R l c p ap ∧ ((an = ap ∧ ∃ bs, __lex_Reader__Is_v1_R u aa ad bs ∧ ((c < (e.length : Int) ∧ 0 ≤ c ∧ ∃ dr b3 dt, e.getD (c).toNat (0, ByteArray.empty, 0) = (dr, b3, dt) ∧ (bs = true ∧ (b3 = ad ∧ law19_LexReads_l9 f e q k be ad l c p u aa z ∨ ¬ b3 = ad ∧ (z = false)) ∨ ¬ bs = true ∧ (b3 = ad ∧ (z = false) ∨ ¬ b3 = ad ∧ law19_LexReads_l9 f e q k be ad l c p u aa z))) ∨ ¬ c < (e.length : Int) ∧ (bs = true ∧ (z = false) ∨ ¬ bs = true ∧ law19_LexReads_l9 f e q k be ad l c p u aa z))) ∨ ¬ an = ap ∧ (z = false))))) : law19_LexReads_l6 f e q k l c p u aa z := by
 intro j jb vs
 refine W.adv 6 ?_
 obtain ⟨ez, e0, H⟩ := H
 obtain ⟨be, ad, e1, H⟩ := H
 refine W.opS (O.ixE E_law19_Act 2 .i64 f k (0, ByteArray.empty) (be, ad) ez e0 e1) ?_
 refine W.adv 2 (W.opH (O.stV 13 ((jb 13).ver + 1) 0 0 2 2 [(.agg [.int .i64 0, .str ⟨#[]⟩])] [(.agg [.int .i64 be, .str ad])] (.agg [.int .i64 0, .str ⟨#[]⟩]) (.agg [.int .i64 be, .str ad])) ?_)
 refine W.adv 6 ?_
 obtain ⟨ay, e2, H⟩ := H
 refine W.callR (g := 18) (ds := [(.pref 203 ((vs 203) + 1) 0 0)]) (es := [(.ptr [(.list 3 (u.map E_lex_Token)), .int .i64 aa])]) (r := (.bool ay)) (by kernel_rfl) (rf_cons (rf_prefV (b := 203) (v := ((vs 203) + 1)) (w := ((vs 203) + 1)) (i := 0) (off := 0) (n := 2) (fz := false) (xs := [(.agg [(.list 3 (u.map E_lex_Token)), .int .i64 aa])]) (d := (.agg [(.list 3 (u.map E_lex_Token)), .int .i64 aa])) (by kernel_rfl) rfl (by kernel_rfl) (by kernel_rfl)) rf_nil) (Ic.args e2 (by kernel_rfl)) (by kernel_rfl) ?_
 refine W.adv 3 (W.opS (O.ldV 54 ((vs 54) + 1) 0 1 3 1 false false [(.agg [(.list 3 (l.map E_ref19_Token)), .int .i64 c, .int .i64 p])] (.int .i64 c)) ?_)
 refine W.adv 1 (W.opS (O.ln e E_ref19_Token) ?_)
 refine W.adv 3 ?_
 rcases H with ⟨a8, H⟩ | ⟨a8, H⟩
 ·rcases H with ⟨b4, H⟩ | ⟨b4, H⟩
  ·refine W.gb true ((!(ay == (decide (c = (e.length : Int))))) == false) (congrArg (fun b => b == false) (congrArg (fun b => !b) (congr (congrArg (fun x y => x == y) a8) (decide_eq_true b4)))) ?_
   refine W.adv 1 (W.gb true ((!(ay == (decide (c = (e.length : Int))))) == false) (congrArg (fun b => b == false) (congrArg (fun b => !b) (congr (congrArg (fun x y => x == y) a8) (decide_eq_true b4)))) ?_)
   obtain ⟨al, e3, H⟩ := H
   refine W.callR (g := 19) (ds := [(.pref 203 ((vs 203) + 1) 0 0)]) (es := [(.ptr [(.list 3 (u.map E_lex_Token)), .int .i64 aa])]) (r := (.int .i64 al)) (by kernel_rfl) (rf_cons (rf_prefV (b := 203) (v := ((vs 203) + 1)) (w := ((vs 203) + 1)) (i := 0) (off := 0) (n := 2) (fz := false) (xs := [(.agg [(.list 3 (u.map E_lex_Token)), .int .i64 aa])]) (d := (.agg [(.list 3 (u.map E_lex_Token)), .int .i64 aa])) (by kernel_rfl) rfl (by kernel_rfl) (by kernel_rfl)) rf_nil) (Ic.args e3 (by kernel_rfl)) (by kernel_rfl) ?_
   refine W.gb true ((!(ay == (decide (c = (e.length : Int))))) == false) (congrArg (fun b => b == false) (congrArg (fun b => !b) (congr (congrArg (fun x y => x == y) a8) (decide_eq_true b4)))) ?_
   refine W.adv 1 (W.gb true ((!(ay == (decide (c = (e.length : Int))))) == false) (congrArg (fun b => b == false) (congrArg (fun b => !b) (congr (congrArg (fun x y => x == y) a8) (decide_eq_true b4)))) ?_)
   obtain ⟨am, e4, H⟩ := H
   refine W.callR (g := 23) (ds := [(.pref 54 ((vs 54) + 1) 0 0)]) (es := [(.ptr [(.list 3 (l.map E_ref19_Token)), .int .i64 c, .int .i64 p])]) (r := (.int .i64 am)) (by kernel_rfl) (rf_cons (rf_prefV (b := 54) (v := ((vs 54) + 1)) (w := ((vs 54) + 1)) (i := 0) (off := 0) (n := 3) (fz := false) (xs := [(.agg [(.list 3 (l.map E_ref19_Token)), .int .i64 c, .int .i64 p])]) (d := (.agg [(.list 3 (l.map E_ref19_Token)), .int .i64 c, .int .i64 p])) (by kernel_rfl) rfl (by kernel_rfl) (by kernel_rfl)) rf_nil) (Ic.args e4 (by kernel_rfl)) (by kernel_rfl) ?_
   refine W.gb true ((!(ay == (decide (c = (e.length : Int))))) == false) (congrArg (fun b => b == false) (congrArg (fun b => !b) (congr (congrArg (fun x y => x == y) a8) (decide_eq_true b4)))) ?_
   refine W.adv 1 (W.opS (O.pk (!(ay == (decide (c = (e.length : Int))))) false (.bool true) (.bool (!(decide (al = am)))) (congrArg (fun b => !b) (congr (congrArg (fun x y => x == y) a8) (decide_eq_true b4)))) ?_)
   refine W.adv 1 ?_
   rcases H with ⟨au, H⟩ | ⟨au, H⟩
   ·refine W.gb true ((!(decide (al = am))) == false) (congrArg (fun b => b == false) (congrArg (fun b => !b) (decide_eq_true au))) ?_
    refine W.adv 1 (W.gb true ((!(decide (al = am))) == false) (congrArg (fun b => b == false) (congrArg (fun b => !b) (decide_eq_true au))) ?_)
    refine W.adv 1 (W.gb true ((!(decide (al = am))) == false) (congrArg (fun b => b == false) (congrArg (fun b => !b) (decide_eq_true au))) ?_)
    refine W.opS (O.ldV 13 ((jb 13).ver + 1) 0 1 2 1 false false [(.agg [.int .i64 be, .str ad])] (.str ad)) ?_
    refine W.gb true ((!(decide (al = am))) == false) (congrArg (fun b => b == false) (congrArg (fun b => !b) (decide_eq_true au))) ?_
    obtain ⟨br, e5, H⟩ := H
    refine W.callR (g := 20) (ds := [(.pref 203 ((vs 203) + 1) 0 0), .str ad]) (es := [(.ptr [(.list 3 (u.map E_lex_Token)), .int .i64 aa]), .str ad]) (r := (.bool br)) (by kernel_rfl) (rf_cons (rf_prefV (b := 203) (v := ((vs 203) + 1)) (w := ((vs 203) + 1)) (i := 0) (off := 0) (n := 2) (fz := false) (xs := [(.agg [(.list 3 (u.map E_lex_Token)), .int .i64 aa])]) (d := (.agg [(.list 3 (u.map E_lex_Token)), .int .i64 aa])) (by kernel_rfl) rfl (by kernel_rfl) (by kernel_rfl)) (rf_cons (by kernel_rfl) rf_nil)) (Ic.args e5 (by kernel_rfl)) (by kernel_rfl) ?_
    refine W.gb true ((!(decide (al = am))) == false) (congrArg (fun b => b == false) (congrArg (fun b => !b) (decide_eq_true au))) ?_
    refine W.adv 1 (W.gb true ((!(decide (al = am))) == false) (congrArg (fun b => b == false) (congrArg (fun b => !b) (decide_eq_true au))) ?_)
    refine W.adv 1 (W.gb true ((!(decide (al = am))) == false) (congrArg (fun b => b == false) (congrArg (fun b => !b) (decide_eq_true au))) ?_)
    refine W.adv 1 (W.gb true ((!(decide (al = am))) == false) (congrArg (fun b => b == false) (congrArg (fun b => !b) (decide_eq_true au))) ?_)
    refine W.opS (O.ldV 54 ((vs 54) + 1) 0 1 3 1 false false [(.agg [(.list 3 (l.map E_ref19_Token)), .int .i64 c, .int .i64 p])] (.int .i64 c)) ?_
    refine W.gb true ((!(decide (al = am))) == false) (congrArg (fun b => b == false) (congrArg (fun b => !b) (decide_eq_true au))) ?_
    refine W.adv 1 (W.gb true ((!(decide (al = am))) == false) (congrArg (fun b => b == false) (congrArg (fun b => !b) (decide_eq_true au))) ?_)
    refine W.opS (O.ln e E_ref19_Token) ?_
    refine W.gb true ((!(decide (al = am))) == false) (congrArg (fun b => b == false) (congrArg (fun b => !b) (decide_eq_true au))) ?_
    refine W.adv 1 (W.gb true ((!(decide (al = am))) == false) (congrArg (fun b => b == false) (congrArg (fun b => !b) (decide_eq_true au))) ?_)
    refine W.adv 1 ?_
    rcases H with ⟨a5, H⟩ | ⟨a5, H⟩
    ·refine W.gt (c < (e.length : Int)) a5 ?_
     refine W.adv 1 (W.gt (c < (e.length : Int)) a5 ?_)
     refine W.adv 1 (W.gt (c < (e.length : Int)) a5 ?_)
     refine W.adv 1 (W.gt (c < (e.length : Int)) a5 ?_)
     refine W.adv 1 (W.gt (c < (e.length : Int)) a5 ?_)
     refine W.opS (O.ldV 54 ((vs 54) + 1) 0 1 3 1 false false [(.agg [(.list 3 (l.map E_ref19_Token)), .int .i64 c, .int .i64 p])] (.int .i64 c)) ?_
     refine W.gt (c < (e.length : Int)) a5 ?_
     obtain ⟨e6, H⟩ := H
     obtain ⟨dp, b2, dq, e7, H⟩ := H
     refine W.opS (O.ixE E_ref19_Token 3 .i64 e c (0, ByteArray.empty, 0) (dp, b2, dq) e6 a5 e7) ?_
     refine W.gt (c < (e.length : Int)) a5 ?_
     refine W.adv 1 (W.gt (c < (e.length : Int)) a5 ?_)
     refine W.adv 1 (W.gt (c < (e.length : Int)) a5 ?_)
     refine W.adv 1 (W.gt (c < (e.length : Int)) a5 ?_)
     refine W.opS (O.ldV 13 ((jb 13).ver + 1) 0 1 2 1 false false [(.agg [.int .i64 be, .str ad])] (.str ad)) ?_
     refine W.gt (c < (e.length : Int)) a5 ?_
     refine W.adv 1 (W.gb true ((!(decide (al = am))) == false) (congrArg (fun b => b == false) (congrArg (fun b => !b) (decide_eq_true au))) ?_)
     refine W.opS (O.pk (decide (c < (e.length : Int))) true (.bool (decide (b2 = ad))) (.bool false) (decide_eq_true a5)) ?_
     refine W.gb true ((!(decide (al = am))) == false) (congrArg (fun b => b == false) (congrArg (fun b => !b) (decide_eq_true au))) ?_
     refine W.adv 1 (W.opS (O.pk (!(decide (al = am))) false (.bool true) (.bool (!(br == (decide (b2 = ad))))) (congrArg (fun b => !b) (decide_eq_true au))) ?_)
     refine W.adv 2 ?_
     rcases H with ⟨cq, H⟩ | ⟨cq, H⟩
     ·rcases H with ⟨du, H⟩ | ⟨du, H⟩
      ·refine W.cb false (!(br == (decide (b2 = ad)))) (congrArg (fun b => !b) (congr (congrArg (fun x y => x == y) cq) (decide_eq_true du))) ?_
       exact W.adv 2 (W.tl H)
      ·refine W.cb true (!(br == (decide (b2 = ad)))) (congrArg (fun b => !b) (congr (congrArg (fun x y => x == y) cq) (decide_eq_false du))) ?_
       exact W.adv 12 (W.fr (LAns.of (d := (.bool false)) (by kernel_rfl) (by rw [H])))
     ·rcases H with ⟨dv, H⟩ | ⟨dv, H⟩
      ·refine W.cb true (!(br == (decide (b2 = ad)))) (congrArg (fun b => !b) (congr (congrArg (fun x y => x == y) (bfalse cq)) (decide_eq_true dv))) ?_
       exact W.adv 12 (W.fr (LAns.of (d := (.bool false)) (by kernel_rfl) (by rw [H])))
      ·refine W.cb false (!(br == (decide (b2 = ad)))) (congrArg (fun b => !b) (congr (congrArg (fun x y => x == y) (bfalse cq)) (decide_eq_false dv))) ?_
       exact W.adv 2 (W.tl H)
    ·refine W.gf (c < (e.length : Int)) a5 ?_
     refine W.gf (c < (e.length : Int)) a5 ?_
     refine W.gf (c < (e.length : Int)) a5 ?_
     refine W.gf (c < (e.length : Int)) a5 ?_
     refine W.gf (c < (e.length : Int)) a5 ?_
     refine W.gf (c < (e.length : Int)) a5 ?_
     refine W.gf (c < (e.length : Int)) a5 ?_
     refine W.gf (c < (e.length : Int)) a5 ?_
     refine W.gf (c < (e.length : Int)) a5 ?_
     refine W.gf (c < (e.length : Int)) a5 ?_
     refine W.gf (c < (e.length : Int)) a5 ?_
     refine W.gb true ((!(decide (al = am))) == false) (congrArg (fun b => b == false) (congrArg (fun b => !b) (decide_eq_true au))) ?_
     refine W.opS (O.pk (decide (c < (e.length : Int))) false (.tuple []) (.bool false) (decide_eq_false a5)) ?_
     refine W.gb true ((!(decide (al = am))) == false) (congrArg (fun b => b == false) (congrArg (fun b => !b) (decide_eq_true au))) ?_
     refine W.adv 1 (W.opS (O.pk (!(decide (al = am))) false (.bool true) (.bool (!(br == false))) (congrArg (fun b => !b) (decide_eq_true au))) ?_)
     refine W.adv 2 ?_
     rcases H with ⟨dw, H⟩ | ⟨dw, H⟩
     ·refine W.cb true (!(br == false)) (congrArg (fun b => !b) (congr (congrArg (fun x y => x == y) dw) rfl)) ?_
      exact W.adv 12 (W.fr (LAns.of (d := (.bool false)) (by kernel_rfl) (by rw [H])))
     ·refine W.cb false (!(br == false)) (congrArg (fun b => !b) (congr (congrArg (fun x y => x == y) (bfalse dw)) rfl)) ?_
      exact W.adv 2 (W.tl H)
   ·refine W.gb false ((!(decide (al = am))) == false) (congrArg (fun b => b == false) (congrArg (fun b => !b) (decide_eq_false au))) ?_
    refine W.gb false ((!(decide (al = am))) == false) (congrArg (fun b => b == false) (congrArg (fun b => !b) (decide_eq_false au))) ?_
    refine W.gb false ((!(decide (al = am))) == false) (congrArg (fun b => b == false) (congrArg (fun b => !b) (decide_eq_false au))) ?_
    refine W.gb false ((!(decide (al = am))) == false) (congrArg (fun b => b == false) (congrArg (fun b => !b) (decide_eq_false au))) ?_
    refine W.gb false ((!(decide (al = am))) == false) (congrArg (fun b => b == false) (congrArg (fun b => !b) (decide_eq_false au))) ?_
    refine W.gb false ((!(decide (al = am))) == false) (congrArg (fun b => b == false) (congrArg (fun b => !b) (decide_eq_false au))) ?_
    refine W.gb false ((!(decide (al = am))) == false) (congrArg (fun b => b == false) (congrArg (fun b => !b) (decide_eq_false au))) ?_
    refine W.gb false ((!(decide (al = am))) == false) (congrArg (fun b => b == false) (congrArg (fun b => !b) (decide_eq_false au))) ?_
    refine W.gb false ((!(decide (al = am))) == false) (congrArg (fun b => b == false) (congrArg (fun b => !b) (decide_eq_false au))) ?_
    refine W.gb false ((!(decide (al = am))) == false) (congrArg (fun b => b == false) (congrArg (fun b => !b) (decide_eq_false au))) ?_
    refine W.gb false ((!(decide (al = am))) == false) (congrArg (fun b => b == false) (congrArg (fun b => !b) (decide_eq_false au))) ?_
    refine W.gb false ((!(decide (al = am))) == false) (congrArg (fun b => b == false) (congrArg (fun b => !b) (decide_eq_false au))) ?_
    refine W.adv 11 (W.gb false ((!(decide (al = am))) == false) (congrArg (fun b => b == false) (congrArg (fun b => !b) (decide_eq_false au))) ?_)
    refine W.gb false ((!(decide (al = am))) == false) (congrArg (fun b => b == false) (congrArg (fun b => !b) (decide_eq_false au))) ?_
    refine W.opS (O.pk (!(decide (al = am))) true (.bool true) (.tuple []) (congrArg (fun b => !b) (decide_eq_false au))) ?_
    exact W.adv 15 (W.fr (LAns.of (d := (.bool false)) (by kernel_rfl) (by rw [H])))
  ·refine W.gb false ((!(ay == (decide (c = (e.length : Int))))) == false) (congrArg (fun b => b == false) (congrArg (fun b => !b) (congr (congrArg (fun x y => x == y) a8) (decide_eq_false b4)))) ?_
   refine W.gb false ((!(ay == (decide (c = (e.length : Int))))) == false) (congrArg (fun b => b == false) (congrArg (fun b => !b) (congr (congrArg (fun x y => x == y) a8) (decide_eq_false b4)))) ?_
   refine W.gb false ((!(ay == (decide (c = (e.length : Int))))) == false) (congrArg (fun b => b == false) (congrArg (fun b => !b) (congr (congrArg (fun x y => x == y) a8) (decide_eq_false b4)))) ?_
   refine W.gb false ((!(ay == (decide (c = (e.length : Int))))) == false) (congrArg (fun b => b == false) (congrArg (fun b => !b) (congr (congrArg (fun x y => x == y) a8) (decide_eq_false b4)))) ?_
   refine W.gb false ((!(ay == (decide (c = (e.length : Int))))) == false) (congrArg (fun b => b == false) (congrArg (fun b => !b) (congr (congrArg (fun x y => x == y) a8) (decide_eq_false b4)))) ?_
   refine W.opS (O.pk (!(ay == (decide (c = (e.length : Int))))) true (.bool true) (.tuple []) (congrArg (fun b => !b) (congr (congrArg (fun x y => x == y) a8) (decide_eq_false b4)))) ?_
   exact W.adv 42 (W.fr (LAns.of (d := (.bool false)) (by kernel_rfl) (by rw [H])))
 ·rcases H with ⟨b5, H⟩ | ⟨b5, H⟩
  ·refine W.gb false ((!(ay == (decide (c = (e.length : Int))))) == false) (congrArg (fun b => b == false) (congrArg (fun b => !b) (congr (congrArg (fun x y => x == y) (bfalse a8)) (decide_eq_true b5)))) ?_
   refine W.gb false ((!(ay == (decide (c = (e.length : Int))))) == false) (congrArg (fun b => b == false) (congrArg (fun b => !b) (congr (congrArg (fun x y => x == y) (bfalse a8)) (decide_eq_true b5)))) ?_
   refine W.gb false ((!(ay == (decide (c = (e.length : Int))))) == false) (congrArg (fun b => b == false) (congrArg (fun b => !b) (congr (congrArg (fun x y => x == y) (bfalse a8)) (decide_eq_true b5)))) ?_
   refine W.gb false ((!(ay == (decide (c = (e.length : Int))))) == false) (congrArg (fun b => b == false) (congrArg (fun b => !b) (congr (congrArg (fun x y => x == y) (bfalse a8)) (decide_eq_true b5)))) ?_
   refine W.gb false ((!(ay == (decide (c = (e.length : Int))))) == false) (congrArg (fun b => b == false) (congrArg (fun b => !b) (congr (congrArg (fun x y => x == y) (bfalse a8)) (decide_eq_true b5)))) ?_
   refine W.opS (O.pk (!(ay == (decide (c = (e.length : Int))))) true (.bool true) (.tuple []) (congrArg (fun b => !b) (congr (congrArg (fun x y => x == y) (bfalse a8)) (decide_eq_true b5)))) ?_
   exact W.adv 42 (W.fr (LAns.of (d := (.bool false)) (by kernel_rfl) (by rw [H])))
  ·refine W.gb true ((!(ay == (decide (c = (e.length : Int))))) == false) (congrArg (fun b => b == false) (congrArg (fun b => !b) (congr (congrArg (fun x y => x == y) (bfalse a8)) (decide_eq_false b5)))) ?_
   refine W.adv 1 (W.gb true ((!(ay == (decide (c = (e.length : Int))))) == false) (congrArg (fun b => b == false) (congrArg (fun b => !b) (congr (congrArg (fun x y => x == y) (bfalse a8)) (decide_eq_false b5)))) ?_)
   obtain ⟨an, e8, H⟩ := H
   refine W.callR (g := 19) (ds := [(.pref 203 ((vs 203) + 1) 0 0)]) (es := [(.ptr [(.list 3 (u.map E_lex_Token)), .int .i64 aa])]) (r := (.int .i64 an)) (by kernel_rfl) (rf_cons (rf_prefV (b := 203) (v := ((vs 203) + 1)) (w := ((vs 203) + 1)) (i := 0) (off := 0) (n := 2) (fz := false) (xs := [(.agg [(.list 3 (u.map E_lex_Token)), .int .i64 aa])]) (d := (.agg [(.list 3 (u.map E_lex_Token)), .int .i64 aa])) (by kernel_rfl) rfl (by kernel_rfl) (by kernel_rfl)) rf_nil) (Ic.args e8 (by kernel_rfl)) (by kernel_rfl) ?_
   refine W.gb true ((!(ay == (decide (c = (e.length : Int))))) == false) (congrArg (fun b => b == false) (congrArg (fun b => !b) (congr (congrArg (fun x y => x == y) (bfalse a8)) (decide_eq_false b5)))) ?_
   refine W.adv 1 (W.gb true ((!(ay == (decide (c = (e.length : Int))))) == false) (congrArg (fun b => b == false) (congrArg (fun b => !b) (congr (congrArg (fun x y => x == y) (bfalse a8)) (decide_eq_false b5)))) ?_)
   obtain ⟨ap, e9, H⟩ := H
   refine W.callR (g := 23) (ds := [(.pref 54 ((vs 54) + 1) 0 0)]) (es := [(.ptr [(.list 3 (l.map E_ref19_Token)), .int .i64 c, .int .i64 p])]) (r := (.int .i64 ap)) (by kernel_rfl) (rf_cons (rf_prefV (b := 54) (v := ((vs 54) + 1)) (w := ((vs 54) + 1)) (i := 0) (off := 0) (n := 3) (fz := false) (xs := [(.agg [(.list 3 (l.map E_ref19_Token)), .int .i64 c, .int .i64 p])]) (d := (.agg [(.list 3 (l.map E_ref19_Token)), .int .i64 c, .int .i64 p])) (by kernel_rfl) rfl (by kernel_rfl) (by kernel_rfl)) rf_nil) (Ic.args e9 (by kernel_rfl)) (by kernel_rfl) ?_
   refine W.gb true ((!(ay == (decide (c = (e.length : Int))))) == false) (congrArg (fun b => b == false) (congrArg (fun b => !b) (congr (congrArg (fun x y => x == y) (bfalse a8)) (decide_eq_false b5)))) ?_
   refine W.adv 1 (W.opS (O.pk (!(ay == (decide (c = (e.length : Int))))) false (.bool true) (.bool (!(decide (an = ap)))) (congrArg (fun b => !b) (congr (congrArg (fun x y => x == y) (bfalse a8)) (decide_eq_false b5)))) ?_)
   refine W.adv 1 ?_
   rcases H with ⟨av, H⟩ | ⟨av, H⟩
   ·refine W.gb true ((!(decide (an = ap))) == false) (congrArg (fun b => b == false) (congrArg (fun b => !b) (decide_eq_true av))) ?_
    refine W.adv 1 (W.gb true ((!(decide (an = ap))) == false) (congrArg (fun b => b == false) (congrArg (fun b => !b) (decide_eq_true av))) ?_)
    refine W.adv 1 (W.gb true ((!(decide (an = ap))) == false) (congrArg (fun b => b == false) (congrArg (fun b => !b) (decide_eq_true av))) ?_)
    refine W.opS (O.ldV 13 ((jb 13).ver + 1) 0 1 2 1 false false [(.agg [.int .i64 be, .str ad])] (.str ad)) ?_
    refine W.gb true ((!(decide (an = ap))) == false) (congrArg (fun b => b == false) (congrArg (fun b => !b) (decide_eq_true av))) ?_
    obtain ⟨bs, fa, H⟩ := H
    refine W.callR (g := 20) (ds := [(.pref 203 ((vs 203) + 1) 0 0), .str ad]) (es := [(.ptr [(.list 3 (u.map E_lex_Token)), .int .i64 aa]), .str ad]) (r := (.bool bs)) (by kernel_rfl) (rf_cons (rf_prefV (b := 203) (v := ((vs 203) + 1)) (w := ((vs 203) + 1)) (i := 0) (off := 0) (n := 2) (fz := false) (xs := [(.agg [(.list 3 (u.map E_lex_Token)), .int .i64 aa])]) (d := (.agg [(.list 3 (u.map E_lex_Token)), .int .i64 aa])) (by kernel_rfl) rfl (by kernel_rfl) (by kernel_rfl)) (rf_cons (by kernel_rfl) rf_nil)) (Ic.args fa (by kernel_rfl)) (by kernel_rfl) ?_
    refine W.gb true ((!(decide (an = ap))) == false) (congrArg (fun b => b == false) (congrArg (fun b => !b) (decide_eq_true av))) ?_
    refine W.adv 1 (W.gb true ((!(decide (an = ap))) == false) (congrArg (fun b => b == false) (congrArg (fun b => !b) (decide_eq_true av))) ?_)
    refine W.adv 1 (W.gb true ((!(decide (an = ap))) == false) (congrArg (fun b => b == false) (congrArg (fun b => !b) (decide_eq_true av))) ?_)
    refine W.adv 1 (W.gb true ((!(decide (an = ap))) == false) (congrArg (fun b => b == false) (congrArg (fun b => !b) (decide_eq_true av))) ?_)
    refine W.opS (O.ldV 54 ((vs 54) + 1) 0 1 3 1 false false [(.agg [(.list 3 (l.map E_ref19_Token)), .int .i64 c, .int .i64 p])] (.int .i64 c)) ?_
    refine W.gb true ((!(decide (an = ap))) == false) (congrArg (fun b => b == false) (congrArg (fun b => !b) (decide_eq_true av))) ?_
    refine W.adv 1 (W.gb true ((!(decide (an = ap))) == false) (congrArg (fun b => b == false) (congrArg (fun b => !b) (decide_eq_true av))) ?_)
    refine W.opS (O.ln e E_ref19_Token) ?_
    refine W.gb true ((!(decide (an = ap))) == false) (congrArg (fun b => b == false) (congrArg (fun b => !b) (decide_eq_true av))) ?_
    refine W.adv 1 (W.gb true ((!(decide (an = ap))) == false) (congrArg (fun b => b == false) (congrArg (fun b => !b) (decide_eq_true av))) ?_)
    refine W.adv 1 ?_
    rcases H with ⟨a6, H⟩ | ⟨a6, H⟩
    ·refine W.gt (c < (e.length : Int)) a6 ?_
     refine W.adv 1 (W.gt (c < (e.length : Int)) a6 ?_)
     refine W.adv 1 (W.gt (c < (e.length : Int)) a6 ?_)
     refine W.adv 1 (W.gt (c < (e.length : Int)) a6 ?_)
     refine W.adv 1 (W.gt (c < (e.length : Int)) a6 ?_)
     refine W.opS (O.ldV 54 ((vs 54) + 1) 0 1 3 1 false false [(.agg [(.list 3 (l.map E_ref19_Token)), .int .i64 c, .int .i64 p])] (.int .i64 c)) ?_
     refine W.gt (c < (e.length : Int)) a6 ?_
     obtain ⟨fb, H⟩ := H
     obtain ⟨dr, b3, dt, fc, H⟩ := H
     refine W.opS (O.ixE E_ref19_Token 3 .i64 e c (0, ByteArray.empty, 0) (dr, b3, dt) fb a6 fc) ?_
     refine W.gt (c < (e.length : Int)) a6 ?_
     refine W.adv 1 (W.gt (c < (e.length : Int)) a6 ?_)
     refine W.adv 1 (W.gt (c < (e.length : Int)) a6 ?_)
     refine W.adv 1 (W.gt (c < (e.length : Int)) a6 ?_)
     refine W.opS (O.ldV 13 ((jb 13).ver + 1) 0 1 2 1 false false [(.agg [.int .i64 be, .str ad])] (.str ad)) ?_
     refine W.gt (c < (e.length : Int)) a6 ?_
     refine W.adv 1 (W.gb true ((!(decide (an = ap))) == false) (congrArg (fun b => b == false) (congrArg (fun b => !b) (decide_eq_true av))) ?_)
     refine W.opS (O.pk (decide (c < (e.length : Int))) true (.bool (decide (b3 = ad))) (.bool false) (decide_eq_true a6)) ?_
     refine W.gb true ((!(decide (an = ap))) == false) (congrArg (fun b => b == false) (congrArg (fun b => !b) (decide_eq_true av))) ?_
     refine W.adv 1 (W.opS (O.pk (!(decide (an = ap))) false (.bool true) (.bool (!(bs == (decide (b3 = ad))))) (congrArg (fun b => !b) (decide_eq_true av))) ?_)
     refine W.adv 2 ?_
     rcases H with ⟨cr, H⟩ | ⟨cr, H⟩
     ·rcases H with ⟨dy, H⟩ | ⟨dy, H⟩
      ·refine W.cb false (!(bs == (decide (b3 = ad)))) (congrArg (fun b => !b) (congr (congrArg (fun x y => x == y) cr) (decide_eq_true dy))) ?_
       exact W.adv 2 (W.tl H)
      ·refine W.cb true (!(bs == (decide (b3 = ad)))) (congrArg (fun b => !b) (congr (congrArg (fun x y => x == y) cr) (decide_eq_false dy))) ?_
       exact W.adv 12 (W.fr (LAns.of (d := (.bool false)) (by kernel_rfl) (by rw [H])))
     ·rcases H with ⟨dz, H⟩ | ⟨dz, H⟩
      ·refine W.cb true (!(bs == (decide (b3 = ad)))) (congrArg (fun b => !b) (congr (congrArg (fun x y => x == y) (bfalse cr)) (decide_eq_true dz))) ?_
       exact W.adv 12 (W.fr (LAns.of (d := (.bool false)) (by kernel_rfl) (by rw [H])))
      ·refine W.cb false (!(bs == (decide (b3 = ad)))) (congrArg (fun b => !b) (congr (congrArg (fun x y => x == y) (bfalse cr)) (decide_eq_false dz))) ?_
       exact W.adv 2 (W.tl H)
    ·refine W.gf (c < (e.length : Int)) a6 ?_
     refine W.gf (c < (e.length : Int)) a6 ?_
     refine W.gf (c < (e.length : Int)) a6 ?_
     refine W.gf (c < (e.length : Int)) a6 ?_
     refine W.gf (c < (e.length : Int)) a6 ?_
     refine W.gf (c < (e.length : Int)) a6 ?_
     refine W.gf (c < (e.length : Int)) a6 ?_
     refine W.gf (c < (e.length : Int)) a6 ?_
     refine W.gf (c < (e.length : Int)) a6 ?_
     refine W.gf (c < (e.length : Int)) a6 ?_
     refine W.gf (c < (e.length : Int)) a6 ?_
     refine W.gb true ((!(decide (an = ap))) == false) (congrArg (fun b => b == false) (congrArg (fun b => !b) (decide_eq_true av))) ?_
     refine W.opS (O.pk (decide (c < (e.length : Int))) false (.tuple []) (.bool false) (decide_eq_false a6)) ?_
     refine W.gb true ((!(decide (an = ap))) == false) (congrArg (fun b => b == false) (congrArg (fun b => !b) (decide_eq_true av))) ?_
     refine W.adv 1 (W.opS (O.pk (!(decide (an = ap))) false (.bool true) (.bool (!(bs == false))) (congrArg (fun b => !b) (decide_eq_true av))) ?_)
     refine W.adv 2 ?_
     rcases H with ⟨d1, H⟩ | ⟨d1, H⟩
     ·refine W.cb true (!(bs == false)) (congrArg (fun b => !b) (congr (congrArg (fun x y => x == y) d1) rfl)) ?_
      exact W.adv 12 (W.fr (LAns.of (d := (.bool false)) (by kernel_rfl) (by rw [H])))
     ·refine W.cb false (!(bs == false)) (congrArg (fun b => !b) (congr (congrArg (fun x y => x == y) (bfalse d1)) rfl)) ?_
      exact W.adv 2 (W.tl H)
   ·refine W.gb false ((!(decide (an = ap))) == false) (congrArg (fun b => b == false) (congrArg (fun b => !b) (decide_eq_false av))) ?_
    refine W.gb false ((!(decide (an = ap))) == false) (congrArg (fun b => b == false) (congrArg (fun b => !b) (decide_eq_false av))) ?_
    refine W.gb false ((!(decide (an = ap))) == false) (congrArg (fun b => b == false) (congrArg (fun b => !b) (decide_eq_false av))) ?_
    refine W.gb false ((!(decide (an = ap))) == false) (congrArg (fun b => b == false) (congrArg (fun b => !b) (decide_eq_false av))) ?_
    refine W.gb false ((!(decide (an = ap))) == false) (congrArg (fun b => b == false) (congrArg (fun b => !b) (decide_eq_false av))) ?_
    refine W.gb false ((!(decide (an = ap))) == false) (congrArg (fun b => b == false) (congrArg (fun b => !b) (decide_eq_false av))) ?_
    refine W.gb false ((!(decide (an = ap))) == false) (congrArg (fun b => b == false) (congrArg (fun b => !b) (decide_eq_false av))) ?_
    refine W.gb false ((!(decide (an = ap))) == false) (congrArg (fun b => b == false) (congrArg (fun b => !b) (decide_eq_false av))) ?_
    refine W.gb false ((!(decide (an = ap))) == false) (congrArg (fun b => b == false) (congrArg (fun b => !b) (decide_eq_false av))) ?_
    refine W.gb false ((!(decide (an = ap))) == false) (congrArg (fun b => b == false) (congrArg (fun b => !b) (decide_eq_false av))) ?_
    refine W.gb false ((!(decide (an = ap))) == false) (congrArg (fun b => b == false) (congrArg (fun b => !b) (decide_eq_false av))) ?_
    refine W.gb false ((!(decide (an = ap))) == false) (congrArg (fun b => b == false) (congrArg (fun b => !b) (decide_eq_false av))) ?_
    refine W.adv 11 (W.gb false ((!(decide (an = ap))) == false) (congrArg (fun b => b == false) (congrArg (fun b => !b) (decide_eq_false av))) ?_)
    refine W.gb false ((!(decide (an = ap))) == false) (congrArg (fun b => b == false) (congrArg (fun b => !b) (decide_eq_false av))) ?_
    refine W.opS (O.pk (!(decide (an = ap))) true (.bool true) (.tuple []) (congrArg (fun b => !b) (decide_eq_false av))) ?_
    exact W.adv 15 (W.fr (LAns.of (d := (.bool false)) (by kernel_rfl) (by rw [H])))
theorem law19_LexReads_l7_go (H : ∃ ct, law19_works_R ct ∧ (z = ct)) : law19_LexReads_l7 z := by
 intro j jb vs
 refine W.adv 2 ?_
 obtain ⟨ct, fd, H⟩ := H
 refine W.cl 15 [] (.bool ct) fd ?_
 exact W.adv 4 (W.fr (LAns.of (d := (.bool ct)) (by kernel_rfl) (by rw [H])))
theorem law19_LexReads_l9_go (H : ∃ a2, triviumbase_Among_R ab 4 a2 ∧ (a2 = 3 ∧ ((c < (e.length : Int) ∧ 0 ≤ c ∧ ∃ d4 ck d5, e.getD (c).toNat (0, ByteArray.empty, 0) = (d4, ck, d5) ∧ law19_LexReads_l11 f e q k a2 ab ck l c p u aa z) ∨ ¬ c < (e.length : Int) ∧ law19_LexReads_l11 f e q k a2 ab ae l c p u aa z) ∨ ¬ a2 = 3 ∧ law19_LexReads_l11 f e q k a2 ab ae l c p u aa z)) : law19_LexReads_l9 f e q k ab ae l c p u aa z := by
 intro j jb vs
 refine W.adv 3 (W.opS (O.ldV 13 ((vs 13) + 1) 0 0 2 1 false false [(.agg [.int .i64 ab, .str ae])] (.int .i64 ab)) ?_)
 obtain ⟨a2, fk, H⟩ := H
 refine W.cl 24 [.int .i64 ab, .int .i64 4] (.int .i64 a2) fk ?_
 refine W.adv 9 ?_
 rcases H with ⟨bk, H⟩ | ⟨bk, H⟩
 ·refine W.gt (a2 = 3) bk ?_
  refine W.adv 1 (W.gt (a2 = 3) bk ?_)
  refine W.adv 1 (W.gt (a2 = 3) bk ?_)
  refine W.adv 1 (W.gt (a2 = 3) bk ?_)
  refine W.opS (O.ldV 54 ((vs 54) + 1) 0 1 3 1 false false [(.agg [(.list 3 (l.map E_ref19_Token)), .int .i64 c, .int .i64 p])] (.int .i64 c)) ?_
  refine W.gt (a2 = 3) bk ?_
  refine W.adv 1 (W.gt (a2 = 3) bk ?_)
  refine W.opS (O.ln e E_ref19_Token) ?_
  refine W.gt (a2 = 3) bk ?_
  refine W.adv 1 (W.opS (O.pk (decide (a2 = 3)) true (.bool (decide (c < (e.length : Int)))) (.bool false) (decide_eq_true bk)) ?_)
  refine W.adv 2 ?_
  rcases H with ⟨cz, H⟩ | ⟨cz, H⟩
  ·refine W.ct (c < (e.length : Int)) cz ?_
   refine W.adv 5 (W.opS (O.ldV 54 ((vs 54) + 1) 0 1 3 1 false false [(.agg [(.list 3 (l.map E_ref19_Token)), .int .i64 c, .int .i64 p])] (.int .i64 c)) ?_)
   obtain ⟨fl, H⟩ := H
   obtain ⟨d4, ck, d5, fm, H⟩ := H
   refine W.opS (O.ixE E_ref19_Token 3 .i64 e c (0, ByteArray.empty, 0) (d4, ck, d5) fl cz fm) ?_
   refine W.adv 3 (W.opH (O.stV 13 ((vs 13) + 1) 0 1 2 1 [(.agg [.int .i64 ab, .str ae])] [(.agg [.int .i64 ab, .str ck])] (.agg [.int .i64 ab, .str ae]) (.str ck)) ?_)
   exact W.adv 2 (W.tl H)
  ·refine W.cf (c < (e.length : Int)) cz ?_
   exact W.adv 2 (W.tl H)
 ·refine W.gf (a2 = 3) bk ?_
  refine W.gf (a2 = 3) bk ?_
  refine W.gf (a2 = 3) bk ?_
  refine W.gf (a2 = 3) bk ?_
  refine W.gf (a2 = 3) bk ?_
  refine W.gf (a2 = 3) bk ?_
  refine W.gf (a2 = 3) bk ?_
  refine W.opS (O.pk (decide (a2 = 3)) false (.tuple []) (.bool false) (decide_eq_false bk)) ?_
  exact W.adv 5 (W.tl H)
theorem law19_LexReads_l11_go (H : (bg = 1 ∧ ∃ c0 c1 p139_0 p139_1, __lex_Reader__Name_M_R u aa c0 c1 p139_0 p139_1 ∧ ∃ c2 c3 p142_0 p142_1 p142_2, __ref19_Reader__Name_M_R l c p c2 c3 p142_0 p142_1 p142_2 ∧ law19_LexReads_l12 f e q k c0 c2 c1 c3 p142_0 p142_1 p142_2 p139_0 p139_1 z) ∨ ¬ bg = 1 ∧ ((bg = 2 ∧ ∃ c4 c5 p146_0 p146_1, __lex_Reader__Figure_M_R u aa c4 c5 p146_0 p146_1 ∧ ∃ c6 c7 p149_0 p149_1 p149_2, __ref19_Reader__Figure_M_R l c p c6 c7 p149_0 p149_1 p149_2 ∧ law19_LexReads_l12 f e q k c4 c6 c5 c7 p149_0 p149_1 p149_2 p146_0 p146_1 z) ∨ ¬ bg = 2 ∧ ∃ c8 p152_0 p152_1, __lex_Reader__Take_M_R u aa ae c8 p152_0 p152_1 ∧ ∃ c9 p155_0 p155_1 p155_2, __ref19_Reader__Take_M_R l c p ae c9 p155_0 p155_1 p155_2 ∧ law19_LexReads_l12 f e q k (⟨#[]⟩) (⟨#[]⟩) c8 c9 p155_0 p155_1 p155_2 p152_0 p152_1 z)) : law19_LexReads_l11 f e q k bg ab ae l c p u aa z := by
 intro j jb vs
 refine W.adv 21 ?_
 rcases H with ⟨d6, H⟩ | ⟨d6, H⟩
 ·refine W.ct (bg = 1) d6 ?_
  refine W.adv 3 ?_
  obtain ⟨c0, c1, p139_0, p139_1, fp, H⟩ := H
  refine W.meth (dst := some 153) (g := 16) (b := 203) (v := ((vs 203) + 1)) (n := 2) (cs := [(.list 3 (u.map E_lex_Token)), .int .i64 aa]) (cin := [(.list 3 (u.map E_lex_Token)), .int .i64 aa]) (rest := []) (args := []) (by kernel_rfl) (by kernel_rfl) (by kernel_rfl) (by kernel_rfl) (by kernel_rfl) (by kernel_rfl) rfl fp ?_
  refine W.adv 9 ?_
  obtain ⟨c2, c3, p142_0, p142_1, p142_2, fq, H⟩ := H
  refine W.meth (dst := some 158) (g := 25) (b := 54) (v := ((vs 54) + 1)) (n := 3) (cs := [(.list 3 (l.map E_ref19_Token)), .int .i64 c, .int .i64 p]) (cin := [(.list 3 (l.map E_ref19_Token)), .int .i64 c, .int .i64 p]) (rest := []) (args := []) (by kernel_rfl) (by kernel_rfl) (by kernel_rfl) (by kernel_rfl) (by kernel_rfl) (by kernel_rfl) rfl fq ?_
  exact W.adv 8 (W.tl H)
 ·refine W.cf (bg = 1) d6 ?_
  refine W.adv 6 ?_
  rcases H with ⟨d7, H⟩ | ⟨d7, H⟩
  ·refine W.ct (bg = 2) d7 ?_
   refine W.adv 3 ?_
   obtain ⟨c4, c5, p146_0, p146_1, fr, H⟩ := H
   refine W.meth (dst := some 165) (g := 17) (b := 203) (v := ((vs 203) + 1)) (n := 2) (cs := [(.list 3 (u.map E_lex_Token)), .int .i64 aa]) (cin := [(.list 3 (u.map E_lex_Token)), .int .i64 aa]) (rest := []) (args := []) (by kernel_rfl) (by kernel_rfl) (by kernel_rfl) (by kernel_rfl) (by kernel_rfl) (by kernel_rfl) rfl fr ?_
   refine W.adv 9 ?_
   obtain ⟨c6, c7, p149_0, p149_1, p149_2, fs, H⟩ := H
   refine W.meth (dst := some 170) (g := 26) (b := 54) (v := ((vs 54) + 1)) (n := 3) (cs := [(.list 3 (l.map E_ref19_Token)), .int .i64 c, .int .i64 p]) (cin := [(.list 3 (l.map E_ref19_Token)), .int .i64 c, .int .i64 p]) (rest := []) (args := []) (by kernel_rfl) (by kernel_rfl) (by kernel_rfl) (by kernel_rfl) (by kernel_rfl) (by kernel_rfl) rfl fs ?_
   exact W.adv 8 (W.tl H)
  ·refine W.cf (bg = 2) d7 ?_
   refine W.adv 3 (W.opS (O.ldV 13 ((vs 13) + 1) 0 1 2 1 false false [(.agg [.int .i64 ab, .str ae])] (.str ae)) ?_)
   obtain ⟨c8, p152_0, p152_1, ft, H⟩ := H
   refine W.meth (dst := some 144) (g := 21) (b := 203) (v := ((vs 203) + 1)) (n := 2) (cs := [(.list 3 (u.map E_lex_Token)), .int .i64 aa]) (cin := [(.list 3 (u.map E_lex_Token)), .int .i64 aa]) (rest := [.str ae]) (args := [.str ae]) (by kernel_rfl) (by kernel_rfl) (by kernel_rfl) (by kernel_rfl) (by kernel_rfl) (by kernel_rfl) rfl ft ?_
   refine W.adv 2 (W.opS (O.ldV 13 ((vs 13) + 1) 0 1 2 1 false false [(.agg [.int .i64 ab, .str ae])] (.str ae)) ?_)
   obtain ⟨c9, p155_0, p155_1, p155_2, fu, H⟩ := H
   refine W.meth (dst := some 148) (g := 27) (b := 54) (v := ((vs 54) + 1)) (n := 3) (cs := [(.list 3 (l.map E_ref19_Token)), .int .i64 c, .int .i64 p]) (cin := [(.list 3 (l.map E_ref19_Token)), .int .i64 c, .int .i64 p]) (rest := [.str ae]) (args := [.str ae]) (by kernel_rfl) (by kernel_rfl) (by kernel_rfl) (by kernel_rfl) (by kernel_rfl) (by kernel_rfl) rfl fu ?_
   exact W.adv 5 (W.tl H)
theorem law19_LexReads_l12_go (H : bm = bn ∧ (b8 = true ∧ (bv = true ∧ law19_LexReads_l13 f e q k l c p u aa z ∨ ¬ bv = true ∧ (z = false)) ∨ ¬ b8 = true ∧ (bv = true ∧ (z = false) ∨ ¬ bv = true ∧ law19_LexReads_l13 f e q k l c p u aa z)) ∨ ¬ bm = bn ∧ (z = false)) : law19_LexReads_l12 f e q k bm bn b8 bv l c p u aa z := by
 intro j jb vs
 refine W.adv 6 ?_
 rcases H with ⟨b9, H⟩ | ⟨b9, H⟩
 ·refine W.gb true ((!(decide (bm = bn))) == false) (congrArg (fun b => b == false) (congrArg (fun b => !b) (decide_eq_true b9))) ?_
  refine W.adv 1 (W.gb true ((!(decide (bm = bn))) == false) (congrArg (fun b => b == false) (congrArg (fun b => !b) (decide_eq_true b9))) ?_)
  refine W.adv 1 (W.gb true ((!(decide (bm = bn))) == false) (congrArg (fun b => b == false) (congrArg (fun b => !b) (decide_eq_true b9))) ?_)
  refine W.adv 1 (W.opS (O.pk (!(decide (bm = bn))) false (.bool true) (.bool (!(b8 == bv))) (congrArg (fun b => !b) (decide_eq_true b9))) ?_)
  refine W.adv 2 ?_
  rcases H with ⟨cu, H⟩ | ⟨cu, H⟩
  ·rcases H with ⟨d8, H⟩ | ⟨d8, H⟩
   ·refine W.cb false (!(b8 == bv)) (congrArg (fun b => !b) (congr (congrArg (fun x y => x == y) cu) d8)) ?_
    exact W.adv 3 (W.tl H)
   ·refine W.cb true (!(b8 == bv)) (congrArg (fun b => !b) (congr (congrArg (fun x y => x == y) cu) (bfalse d8))) ?_
    exact W.adv 11 (W.fr (LAns.of (d := (.bool false)) (by kernel_rfl) (by rw [H])))
  ·rcases H with ⟨d9, H⟩ | ⟨d9, H⟩
   ·refine W.cb true (!(b8 == bv)) (congrArg (fun b => !b) (congr (congrArg (fun x y => x == y) (bfalse cu)) d9)) ?_
    exact W.adv 11 (W.fr (LAns.of (d := (.bool false)) (by kernel_rfl) (by rw [H])))
   ·refine W.cb false (!(b8 == bv)) (congrArg (fun b => !b) (congr (congrArg (fun x y => x == y) (bfalse cu)) (bfalse d9))) ?_
    exact W.adv 3 (W.tl H)
 ·refine W.gb false ((!(decide (bm = bn))) == false) (congrArg (fun b => b == false) (congrArg (fun b => !b) (decide_eq_false b9))) ?_
  refine W.gb false ((!(decide (bm = bn))) == false) (congrArg (fun b => b == false) (congrArg (fun b => !b) (decide_eq_false b9))) ?_
  refine W.gb false ((!(decide (bm = bn))) == false) (congrArg (fun b => b == false) (congrArg (fun b => !b) (decide_eq_false b9))) ?_
  refine W.opS (O.pk (!(decide (bm = bn))) true (.bool true) (.tuple []) (congrArg (fun b => !b) (decide_eq_false b9))) ?_
  exact W.adv 14 (W.fr (LAns.of (d := (.bool false)) (by kernel_rfl) (by rw [H])))
theorem law19_LexReads_l13_go (H : law19_LexReads_l3 f e q (wi (k + 1)) l c p u aa z) : law19_LexReads_l13 f e q k l c p u aa z := by
 intro j jb vs
 exact W.adv 6 (W.tl H)
theorem law19_LexReads_go (H : 0 ≤ (mn (bb.size : Int) 400) ∧ (mn (bb.size : Int) 400) ≤ (bb.size : Int) ∧ ∃ k3_0 k3_1 bc bf, lex_New_K_R (bb.extract 0 (mn (bb.size : Int) 400).toNat) k3_0 k3_1 bc bf ∧ ((¬ bf = 0 ∧ ∃ cv bt a9, ref19_All_R (bb.extract 0 (mn (bb.size : Int) 400).toNat) cv bt a9 ∧ (bc = bt ∧ (bf = a9 ∧ (a9 = 0 ∧ (z = false) ∨ ¬ a9 = 0 ∧ law19_LexReads_l0 cl cv bt a9 z) ∨ ¬ bf = a9 ∧ (z = false)) ∨ ¬ bc = bt ∧ (z = false))) ∨ bf = 0 ∧ ∃ cw bu ba, ref19_All_R (bb.extract 0 (mn (bb.size : Int) 400).toNat) cw bu ba ∧ (bc = bu ∧ (0 = ba ∧ (ba = 0 ∧ law19_LexReads_l1 cl cw bu ba k3_0 k3_1 z ∨ ¬ ba = 0 ∧ (z = false)) ∨ ¬ 0 = ba ∧ (z = false)) ∨ ¬ bc = bu ∧ (z = false)))) : law19_LexReads_R bb cl z := by
 refine W.li Try.func6 ?_
 refine W.adv 11 ?_
 obtain ⟨fv, fw, H⟩ := H
 refine W.opS (OpIs.slT_hi (k' := .i64) (s := bb) (i := (mn (bb.size : Int) 400)) (by kernel_rfl) fv fw) ?_
 refine W.adv 6 ?_
 obtain ⟨k3_0, k3_1, bc, bf, fy, H⟩ := H
 refine W.keep (g := 22) (ds := [(.str (bb.extract 0 (mn (bb.size : Int) 400).toNat))]) (P := (fun cb => [cb 0, cb 1, cb 2, cb 3, cb 4, cb 5, cb 6, cb 7, cb 8, cb 9, cb 10, cb 11, cb 12, cb 13, cb 14, cb 15, cb 16, cb 17, cb 18, cb 19, cb 20, cb 21, cb 22, cb 23, cb 24, cb 25, cb 26, cb 27, cb 28, cb 29, cb 30, cb 31, cb 32, cb 33, cb 34, cb 35, cb 36, cb 37, cb 38, cb 39, cb 40, cb 41, cb 42, cb 43, cb 44, cb 45, cb 46, cb 47, cb 48, cb 49, cb 50, cb 51, cb 52, cb 53, cb 54, cb 55, cb 56, cb 57, cb 58, cb 59, cb 60, cb 61, cb 62, cb 63, cb 64, cb 65, cb 66, cb 67, cb 68, cb 69, cb 70, cb 71, cb 72, cb 73, cb 74, cb 75, cb 76, cb 77, cb 78, cb 79, cb 80, cb 81, cb 82, cb 83, cb 84, cb 85, cb 86, cb 87, cb 88, cb 89, cb 90, cb 91, cb 92, cb 93, cb 94, cb 95, cb 96, cb 97, cb 98, cb 99, cb 100, cb 101, cb 102, cb 103, cb 104, cb 105, cb 106, cb 107, cb 108, cb 109, cb 110, cb 111, cb 112, cb 113, cb 114, cb 115, cb 116, cb 117, cb 118, cb 119, cb 120, cb 121, cb 122, cb 123, cb 124, cb 125, cb 126, cb 127, cb 128, cb 129, cb 130, cb 131, cb 132, cb 133, cb 134, cb 135, cb 136, cb 137, cb 138, cb 139, cb 140, cb 141, cb 142, cb 143, cb 144, cb 145, cb 146, cb 147, cb 148, cb 149, cb 150, cb 151, cb 152, cb 153, cb 154, cb 155, cb 156, cb 157, cb 158, cb 159, cb 160, cb 161, cb 162, cb 163, cb 164, cb 165, cb 166, cb 167, cb 168, cb 169, cb 170, cb 171, cb 172, cb 173, cb 174, cb 175, cb 176, cb 177, cb 178, cb 179, cb 180, cb 181])) (A := fun cb => lex_New_K_A cb k3_0 k3_1 bc bf) (by kernel_rfl) (by kernel_rfl) (by kernel_rfl) fy ?_
 rintro _ _ (⟨ea, rfl, rfl⟩ | ⟨ea, ebv8, rfl, eb7, rfl⟩)
 ·rcases H with ⟨_, H⟩ | ⟨ec, _⟩
  ·refine W.adv 12 ?_
   obtain ⟨cv, bt, a9, f0, H⟩ := H
   refine W.cl 14 [(.str (bb.extract 0 (mn (bb.size : Int) 400).toNat))] (.tuple [(.list 3 (cv.map E_ref19_Token)), .int .i64 bt, .int .i64 a9]) f0 ?_
   refine W.adv 16 ?_
   rcases H with ⟨ca, H⟩ | ⟨ca, H⟩
   ·refine W.gb true ((!(decide (bc = bt))) == false) (congrArg (fun b => b == false) (congrArg (fun b => !b) (decide_eq_true ca))) ?_
    refine W.adv 1 (W.gb true ((!(decide (bc = bt))) == false) (congrArg (fun b => b == false) (congrArg (fun b => !b) (decide_eq_true ca))) ?_)
    refine W.adv 1 (W.gb true ((!(decide (bc = bt))) == false) (congrArg (fun b => b == false) (congrArg (fun b => !b) (decide_eq_true ca))) ?_)
    refine W.adv 1 (W.opS (O.pk (!(decide (bc = bt))) false (.bool true) (.bool (!(decide (bf = a9)))) (congrArg (fun b => !b) (decide_eq_true ca))) ?_)
    refine W.adv 1 ?_
    rcases H with ⟨b6, H⟩ | ⟨b6, H⟩
    ·refine W.gb true ((!(decide (bf = a9))) == false) (congrArg (fun b => b == false) (congrArg (fun b => !b) (decide_eq_true b6))) ?_
     refine W.adv 1 (W.gb true ((!(decide (bf = a9))) == false) (congrArg (fun b => b == false) (congrArg (fun b => !b) (decide_eq_true b6))) ?_)
     refine W.adv 1 (W.gb true ((!(decide (bf = a9))) == false) (congrArg (fun b => b == false) (congrArg (fun b => !b) (decide_eq_true b6))) ?_)
     refine W.adv 1 (W.gb true ((!(decide (bf = a9))) == false) (congrArg (fun b => b == false) (congrArg (fun b => !b) (decide_eq_true b6))) ?_)
     refine W.adv 1 (W.gb true ((!(decide (bf = a9))) == false) (congrArg (fun b => b == false) (congrArg (fun b => !b) (decide_eq_true b6))) ?_)
     refine W.adv 1 (W.opS (O.pk (!(decide (bf = a9))) false (.bool true) (.bool (!(true == (!(decide (a9 = 0)))))) (congrArg (fun b => !b) (decide_eq_true b6))) ?_)
     refine W.adv 2 ?_
     rcases H with ⟨ed, H⟩ | ⟨ed, H⟩
     ·refine W.cb true (!(true == (!(decide (a9 = 0))))) (congrArg (fun b => !b) (congr (congrArg (fun x y => x == y) rfl) (congrArg (fun b => !b) (decide_eq_true ed)))) ?_
      exact W.adv 7 (W.fr (LAns.of (d := (.bool false)) (by kernel_rfl) (by rw [H])))
     ·refine W.cb false (!(true == (!(decide (a9 = 0))))) (congrArg (fun b => !b) (congr (congrArg (fun x y => x == y) rfl) (congrArg (fun b => !b) (decide_eq_false ed)))) ?_
      exact W.adv 2 (W.tl H)
    ·refine W.gb false ((!(decide (bf = a9))) == false) (congrArg (fun b => b == false) (congrArg (fun b => !b) (decide_eq_false b6))) ?_
     refine W.gb false ((!(decide (bf = a9))) == false) (congrArg (fun b => b == false) (congrArg (fun b => !b) (decide_eq_false b6))) ?_
     refine W.gb false ((!(decide (bf = a9))) == false) (congrArg (fun b => b == false) (congrArg (fun b => !b) (decide_eq_false b6))) ?_
     refine W.gb false ((!(decide (bf = a9))) == false) (congrArg (fun b => b == false) (congrArg (fun b => !b) (decide_eq_false b6))) ?_
     refine W.gb false ((!(decide (bf = a9))) == false) (congrArg (fun b => b == false) (congrArg (fun b => !b) (decide_eq_false b6))) ?_
     refine W.opS (O.pk (!(decide (bf = a9))) true (.bool true) (.tuple []) (congrArg (fun b => !b) (decide_eq_false b6))) ?_
     exact W.adv 10 (W.fr (LAns.of (d := (.bool false)) (by kernel_rfl) (by rw [H])))
   ·refine W.gb false ((!(decide (bc = bt))) == false) (congrArg (fun b => b == false) (congrArg (fun b => !b) (decide_eq_false ca))) ?_
    refine W.gb false ((!(decide (bc = bt))) == false) (congrArg (fun b => b == false) (congrArg (fun b => !b) (decide_eq_false ca))) ?_
    refine W.gb false ((!(decide (bc = bt))) == false) (congrArg (fun b => b == false) (congrArg (fun b => !b) (decide_eq_false ca))) ?_
    refine W.opS (O.pk (!(decide (bc = bt))) true (.bool true) (.tuple []) (congrArg (fun b => !b) (decide_eq_false ca))) ?_
    exact W.adv 17 (W.fr (LAns.of (d := (.bool false)) (by kernel_rfl) (by rw [H])))
  ·exact absurd ec ea
 ·rcases H with ⟨ec, _⟩ | ⟨_, H⟩
  ·exact absurd ea ec
  ·refine W.adv 12 ?_
   obtain ⟨cw, bu, ba, f1, H⟩ := H
   refine W.cl 14 [(.str (bb.extract 0 (mn (bb.size : Int) 400).toNat))] (.tuple [(.list 3 (cw.map E_ref19_Token)), .int .i64 bu, .int .i64 ba]) f1 ?_
   refine W.adv 16 ?_
   rcases H with ⟨cc, H⟩ | ⟨cc, H⟩
   ·refine W.gb true ((!(decide (bc = bu))) == false) (congrArg (fun b => b == false) (congrArg (fun b => !b) (decide_eq_true cc))) ?_
    refine W.adv 1 (W.gb true ((!(decide (bc = bu))) == false) (congrArg (fun b => b == false) (congrArg (fun b => !b) (decide_eq_true cc))) ?_)
    refine W.adv 1 (W.gb true ((!(decide (bc = bu))) == false) (congrArg (fun b => b == false) (congrArg (fun b => !b) (decide_eq_true cc))) ?_)
    refine W.adv 1 (W.opS (O.pk (!(decide (bc = bu))) false (.bool true) (.bool (!(decide (0 = ba)))) (congrArg (fun b => !b) (decide_eq_true cc))) ?_)
    refine W.adv 1 ?_
    rcases H with ⟨b7, H⟩ | ⟨b7, H⟩
    ·refine W.gb true ((!(decide (0 = ba))) == false) (congrArg (fun b => b == false) (congrArg (fun b => !b) (decide_eq_true b7))) ?_
     refine W.adv 1 (W.gb true ((!(decide (0 = ba))) == false) (congrArg (fun b => b == false) (congrArg (fun b => !b) (decide_eq_true b7))) ?_)
     refine W.adv 1 (W.gb true ((!(decide (0 = ba))) == false) (congrArg (fun b => b == false) (congrArg (fun b => !b) (decide_eq_true b7))) ?_)
     refine W.adv 1 (W.gb true ((!(decide (0 = ba))) == false) (congrArg (fun b => b == false) (congrArg (fun b => !b) (decide_eq_true b7))) ?_)
     refine W.adv 1 (W.gb true ((!(decide (0 = ba))) == false) (congrArg (fun b => b == false) (congrArg (fun b => !b) (decide_eq_true b7))) ?_)
     refine W.adv 1 (W.opS (O.pk (!(decide (0 = ba))) false (.bool true) (.bool (!(false == (!(decide (ba = 0)))))) (congrArg (fun b => !b) (decide_eq_true b7))) ?_)
     refine W.adv 2 ?_
     rcases H with ⟨ee, H⟩ | ⟨ee, H⟩
     ·refine W.cb false (!(false == (!(decide (ba = 0))))) (congrArg (fun b => !b) (congr (congrArg (fun x y => x == y) rfl) (congrArg (fun b => !b) (decide_eq_true ee)))) ?_
      exact W.adv 2 (W.tl H)
     ·refine W.cb true (!(false == (!(decide (ba = 0))))) (congrArg (fun b => !b) (congr (congrArg (fun x y => x == y) rfl) (congrArg (fun b => !b) (decide_eq_false ee)))) ?_
      exact W.adv 7 (W.fr (LAns.of (d := (.bool false)) (by kernel_rfl) (by rw [H])))
    ·refine W.gb false ((!(decide (0 = ba))) == false) (congrArg (fun b => b == false) (congrArg (fun b => !b) (decide_eq_false b7))) ?_
     refine W.gb false ((!(decide (0 = ba))) == false) (congrArg (fun b => b == false) (congrArg (fun b => !b) (decide_eq_false b7))) ?_
     refine W.gb false ((!(decide (0 = ba))) == false) (congrArg (fun b => b == false) (congrArg (fun b => !b) (decide_eq_false b7))) ?_
     refine W.gb false ((!(decide (0 = ba))) == false) (congrArg (fun b => b == false) (congrArg (fun b => !b) (decide_eq_false b7))) ?_
     refine W.gb false ((!(decide (0 = ba))) == false) (congrArg (fun b => b == false) (congrArg (fun b => !b) (decide_eq_false b7))) ?_
     refine W.opS (O.pk (!(decide (0 = ba))) true (.bool true) (.tuple []) (congrArg (fun b => !b) (decide_eq_false b7))) ?_
     exact W.adv 10 (W.fr (LAns.of (d := (.bool false)) (by kernel_rfl) (by rw [H])))
   ·refine W.gb false ((!(decide (bc = bu))) == false) (congrArg (fun b => b == false) (congrArg (fun b => !b) (decide_eq_false cc))) ?_
    refine W.gb false ((!(decide (bc = bu))) == false) (congrArg (fun b => b == false) (congrArg (fun b => !b) (decide_eq_false cc))) ?_
    refine W.gb false ((!(decide (bc = bu))) == false) (congrArg (fun b => b == false) (congrArg (fun b => !b) (decide_eq_false cc))) ?_
    refine W.opS (O.pk (!(decide (bc = bu))) true (.bool true) (.tuple []) (congrArg (fun b => !b) (decide_eq_false cc))) ?_
    exact W.adv 17 (W.fr (LAns.of (d := (.bool false)) (by kernel_rfl) (by rw [H])))
end
end Go.Proofs.YtlpbmajbalenjaaA
