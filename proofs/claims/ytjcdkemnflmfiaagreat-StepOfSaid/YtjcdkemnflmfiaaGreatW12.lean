/- Walks through the functions: what makes each relation true. -/
import Derived.Test.YtjcdkemnflmfiaaGreatW0
set_option linter.unusedVariables false
set_option maxRecDepth 100000
namespace Go.Proofs.YtjcdkemnflmfiaaGreatA
open Go Go.Proofs
section
variable (br : List T_api_Rat) (a2 : List T_fail_Case) (aw an : Int) (b0 : List T_api_Hop) (bw ba : Int) (bb : ByteArray) (ay : List T_api_Node) (bc : List T_api_Link) (bd : List T_api_Rule) (am ab : Int) (q : Bool) (a3 : ByteArray) (a4 a5 : Int) (a6 : Bool) (a7 : List T71) (a8 : List T_string) (ap : List (T_string × T_int)) (a9 : List T_api_Rat) (ar : Bool) (au av : List Int) (b2 : Int) (bg : Bool) (bi bk : List Int) (c : Bool) (e f : List Int) (l : List (T_int × T_api_Rat)) (al : List Int) (p : List T_api_Rat) (be : Nat) (az : D) (aq : Blk) (cn : ByteArray) (cp : List T_api_Node) (cq : List T_api_Link) (bq : List T_api_Rule) (a0 : Int) (ac : List Int) (ad : List T_api_Rat) (ae : Bool) (af ag : List Int) (ai : Int)
noncomputable def step_Of_l0_s (j : Nat → D) (jb : Nat → Blk) (vs : Nat → Nat) : Cf := cfAt Tryz.f11 [1, 1, 1, 1, 1, 1, 1, 1, 1, 0, 1, 0] ⟨([j 0, j 1, .pref 2 1 0 0, j 3, .pref 4 1 0 0, j 5, .pref 6 1 0 0, .pref 7 1 0 0, j 8, j 9, .pref 10 1 0 0, .mref 69 1] ++ (J j 12 58 ++ ([(.list 4 (a2.map E_fail_Case)), .int .i64 aw, .int .i64 an] ++ J j 73 89))), ([jb 0, jb 1, ⟨1, false, .rows 4 [(.agg [.str bb, (.list 2 (ay.map E_api_Node)), (.list 6 (bc.map E_api_Link)), (.list 5 (bd.map E_api_Rule))])]⟩, jb 3, ⟨1, false, .rows 5 [(.agg [.nilS, .nilS, .bool q, .nilS, .nilS])]⟩, jb 5, ⟨1, false, .rows 5 [(.agg [.str a3, .int .u32 a4, .int .i64 a5, .bool a6, (.list 1 (a7.map E71))])]⟩, ⟨1, (jb 7).fz, .rows 3 [(.agg [(.list 1 (a8.map E_string)), (.mlit (mks E_string ap) (mvs E_int ap)), (.list 3 (a9.map E_api_Rat))])]⟩, jb 8, jb 9, ⟨1, false, .rows 3 [(.agg [.bool ar, .ints .u64 au, .ints .u64 av])]⟩] ++ (J jb 11 58 ++ ([⟨1, false, .map (mrow E_int E_api_Rat l)⟩] ++ J jb 70 92)))⟩
def step_Of_l0 : Prop := ∀ j jb vs, W C F 11 0 (step_Of_l0_s a2 aw an bb ay bc bd q a3 a4 a5 a6 a7 a8 ap a9 ar au av l  j jb vs) (Ans C Tryz.f11 (.tuple [(.agg [.ints .i64 ac, (.list 3 (ad.map E_api_Rat)), .bool ae, .ints .u64 af, .ints .u64 ag]), .int .i64 ai]))
noncomputable def step_Of_l1_s (j : Nat → D) (jb : Nat → Blk) (vs : Nat → Nat) : Cf := cfAt Tryz.f11 [1, 1, 1, 1, 1, 1, 1, 1, 1, 0, 1, 0, 0, 1, 1, 0, 0, 1, 1, 1, 1, 1, 0] ⟨([j 0, j 1, .pref 2 1 0 0, j 3, .pref 4 1 0 0, j 5, .pref 6 1 0 0, .pref 7 1 0 0, j 8, j 9, .pref 10 1 0 0, .mref 69 1, j 12, (.pref 13 ((vs 13) + 1) 0 0), j 14, j 15, (.list 3 (br.map E_api_Rat))] ++ (J j 17 53 ++ ([(.list 4 (a2.map E_fail_Case)), .int .i64 aw, .int .i64 an] ++ (J j 73 17 ++ ([(.list 2 (b0.map E_api_Hop)), .int .i64 bw, .int .i64 ba] ++ J j 93 69))))), ([jb 0, jb 1, ⟨1, false, .rows 4 [(.agg [.str bb, (.list 2 (ay.map E_api_Node)), (.list 6 (bc.map E_api_Link)), (.list 5 (bd.map E_api_Rule))])]⟩, jb 3, ⟨1, false, .rows 5 [(.agg [.nilS, .nilS, .bool q, .nilS, .nilS])]⟩, jb 5, ⟨1, false, .rows 5 [(.agg [.str a3, .int .u32 a4, .int .i64 a5, .bool a6, (.list 1 (a7.map E71))])]⟩, ⟨1, true, .rows 3 [(.agg [(.list 1 (a8.map E_string)), (.mlit (mks E_string ap) (mvs E_int ap)), (.list 3 (a9.map E_api_Rat))])]⟩, jb 8, jb 9, ⟨1, false, .rows 3 [(.agg [.bool ar, .ints .u64 au, .ints .u64 av])]⟩, jb 11, jb 12, ⟨((vs 13) + 1), true, .rows 4 [(.agg [.int .u64 b2, .bool bg, .ints .u64 bi, .ints .u64 bk])]⟩] ++ (J jb 14 55 ++ ([⟨1, false, .map (mrow E_int E_api_Rat l)⟩] ++ J jb 70 92)))⟩
def step_Of_l1 : Prop := ∀ j jb vs, W C F 11 0 (step_Of_l1_s br a2 aw an b0 bw ba bb ay bc bd q a3 a4 a5 a6 a7 a8 ap a9 ar au av b2 bg bi bk l  j jb vs) (Ans C Tryz.f11 (.tuple [(.agg [.ints .i64 ac, (.list 3 (ad.map E_api_Rat)), .bool ae, .ints .u64 af, .ints .u64 ag]), .int .i64 ai]))
noncomputable def step_Of_l2_s (am ab : Int) (q c : Bool) (e f : List Int) (l : List (T_int × T_api_Rat)) (p : List T_api_Rat) (az : D) (aq : Blk) (j : Nat → D) (jb : Nat → Blk) (vs : Nat → Nat) : Cf := cfAt Tryz.f11 [1, 1, 1, 1, 1, 1, 1, 1, 1, 1, 1, 0, 1, 0] ⟨(J j 0 4 ++ ([.pref 4 1 0 0] ++ (J j 5 6 ++ ([.mref 69 1] ++ (J j 12 10 ++ ([(.pref 22 ((vs 22) + 1) 0 0)] ++ (J j 23 109 ++ ([.int .i64 am, .int .i64 ab] ++ J j 134 28)))))))), (J jb 0 4 ++ ([⟨1, false, .rows 5 [(.agg [.nilS, .nilS, .bool q, .nilS, .nilS])]⟩] ++ (J jb 5 17 ++ ([⟨((vs 22) + 1), false, .rows 5 [(.agg [.nilS, az, .bool c, .ints .u64 e, .ints .u64 f])]⟩] ++ (J jb 23 46 ++ ([⟨1, false, .map (mrow E_int E_api_Rat l)⟩] ++ (J jb 70 87 ++ ([aq] ++ J jb 158 4))))))))⟩
def step_Of_l2 : Prop := ∀ az aq, Opt E_api_Rat 157 3 az aq p → ∀ j jb vs, W C F 11 0 (step_Of_l2_s am ab q c e f l p az aq j jb vs) (Ans C Tryz.f11 (.tuple [(.agg [.ints .i64 ac, (.list 3 (ad.map E_api_Rat)), .bool ae, .ints .u64 af, .ints .u64 ag]), .int .i64 ai]))
noncomputable def step_Of_l3_s (am ab : Int) (q c : Bool) (e f : List Int) (l : List (T_int × T_api_Rat)) (al : List Int) (p : List T_api_Rat) (be : Nat) (az : D) (aq : Blk) (j : Nat → D) (jb : Nat → Blk) (vs : Nat → Nat) : Cf := cfAt Tryz.f11 [1, 1, 1, 1, 1, 1, 1, 1, 1, 1, 1, 0, 1, 0] ⟨(J j 0 4 ++ ([.pref 4 1 0 0] ++ (J j 5 6 ++ ([.mref 69 1] ++ (J j 12 10 ++ ([(.pref 22 ((vs 22) + 1) 0 0)] ++ (J j 23 109 ++ ([.int .i64 am, .int .i64 ab] ++ J j 134 28)))))))), (J jb 0 4 ++ ([⟨1, false, .rows 5 [(.agg [.nilS, .nilS, .bool q, .nilS, .nilS])]⟩] ++ (J jb 5 17 ++ ([⟨((vs 22) + 1), false, .rows 5 [(.agg [(.sref 152 ((vs 152) + 1) 1 0 be), az, .bool c, .ints .u64 e, .ints .u64 f])]⟩] ++ (J jb 23 46 ++ ([⟨1, false, .map (mrow E_int E_api_Rat l)⟩] ++ (J jb 70 82 ++ ([⟨((vs 152) + 1), false, .ints .i64 al⟩] ++ (J jb 153 4 ++ ([aq] ++ J jb 158 4))))))))))⟩
def step_Of_l3 : Prop := ∀ be, be = al.length → ∀ az aq, Opt E_api_Rat 157 3 az aq p → ∀ j jb vs, W C F 11 0 (step_Of_l3_s am ab q c e f l al p be az aq j jb vs) (Ans C Tryz.f11 (.tuple [(.agg [.ints .i64 ac, (.list 3 (ad.map E_api_Rat)), .bool ae, .ints .u64 af, .ints .u64 ag]), .int .i64 ai]))
variable {br a2 aw an b0 bw ba bb ay bc bd am ab q a3 a4 a5 a6 a7 a8 ap a9 ar au av b2 bg bi bk c e f l al p be az aq cn cp cq bq a0 ac ad ae af ag ai}
theorem step_Of_l0_go (H : (an < aw ∧ 0 ≤ an ∧ an < (a2.length : Int) ∧ ∃ bv bl bm bn, a2.getD (an).toNat (0, false, [], []) = (bv, bl, bm, bn) ∧ ∃ bf ci, step_Shares_v1_R a3 a4 a5 a6 a7 bv bl bm bn a8 ap a9 bf ci ∧ (((bf.length : Int) = 0 ∧ ∃ dd de df, rat_Add_R ar au av bl bm bn dd de df ∧ step_Of_l1 ci a2 aw an bf (bf.length : Int) 0 bb ay bc bd q a3 a4 a5 a6 a7 a8 ap a9 dd de df bv bl bm bn l ac ad ae af ag ai) ∨ ¬ (bf.length : Int) = 0 ∧ step_Of_l1 ci a2 aw an bf (bf.length : Int) 0 bb ay bc bd q a3 a4 a5 a6 a7 a8 ap a9 ar au av bv bl bm bn l ac ad ae af ag ai)) ∨ ¬ an < aw ∧ step_Of_l2 (ay.length : Int) 0 q ar au av l ([] : List T_api_Rat) ac ad ae af ag ai) : step_Of_l0 a2 aw an bb ay bc bd q a3 a4 a5 a6 a7 a8 ap a9 ar au av l ac ad ae af ag ai := by
 intro j jb vs
 refine W.adv 1 (W.adv 6 ?_)
 rcases H with ⟨d5, H⟩ | ⟨d5, H⟩
 ·refine W.ct (an < aw) d5 ?_
  refine W.adv 6 ?_
  obtain ⟨e0, e1, H⟩ := H
  obtain ⟨bv, bl, bm, bn, e2, H⟩ := H
  refine W.opS (O.ixE E_fail_Case 4 .i64 a2 an (0, false, [], []) (bv, bl, bm, bn) e0 e1 e2) ?_
  refine W.adv 2 (W.opH (O.stV 13 ((jb 13).ver + 1) 0 0 4 4 [(.agg [.int .u64 0, .bool false, .nilS, .nilS])] [(.agg [.int .u64 bv, .bool bl, .ints .u64 bm, .ints .u64 bn])] (.agg [.int .u64 0, .bool false, .nilS, .nilS]) (.agg [.int .u64 bv, .bool bl, .ints .u64 bm, .ints .u64 bn])) ?_)
  refine W.adv 12 ?_
  obtain ⟨bf, ci, e3, H⟩ := H
  refine W.callR (g := 19) (ds := [(.agg [.str a3, .int .u32 a4, .int .i64 a5, .bool a6, (.list 1 (a7.map E71))]), (.fn 42 [] [(.pref 13 ((jb 13).ver + 1) 0 0), .pref 7 1 0 0])]) (es := [(.agg [.str a3, .int .u32 a4, .int .i64 a5, .bool a6, (.list 1 (a7.map E71))]), (.fn 42 [] [(.ptr [.int .u64 bv, .bool bl, .ints .u64 bm, .ints .u64 bn]), (.ptr [(.list 1 (a8.map E_string)), (.mlit (mks E_string ap) (mvs E_int ap)), (.list 3 (a9.map E_api_Rat))])])]) (r := (.tuple [(.list 2 (bf.map E_api_Hop)), (.list 3 (ci.map E_api_Rat))])) (by kernel_rfl) (rf_cons (by kernel_rfl) (rf_cons (rf_fn rf_nil (rf_cons (rf_prefV (b := 13) (v := ((jb 13).ver + 1)) (w := ((jb 13).ver + 1)) (i := 0) (off := 0) (n := 4) (fz := false) (xs := [(.agg [.int .u64 bv, .bool bl, .ints .u64 bm, .ints .u64 bn])]) (d := (.agg [.int .u64 bv, .bool bl, .ints .u64 bm, .ints .u64 bn])) (by kernel_rfl) rfl (by kernel_rfl) (by kernel_rfl)) (rf_cons (by kernel_rfl) rf_nil))) rf_nil)) (Ic.args e3 (by kernel_rfl)) (by kernel_rfl) ?_
  refine W.adv 11 (W.opS (O.ln bf E_api_Hop) ?_)
  refine W.adv 3 ?_
  rcases H with ⟨d6, H⟩ | ⟨d6, H⟩
  ·refine W.ct ((bf.length : Int) = 0) d6 ?_
   refine W.adv 3 (W.opS (O.ldV 13 ((jb 13).ver + 1) 0 1 4 3 true true [(.agg [.int .u64 bv, .bool bl, .ints .u64 bm, .ints .u64 bn])] (.agg [.bool bl, .ints .u64 bm, .ints .u64 bn])) ?_)
   obtain ⟨dd, de, df, e4, H⟩ := H
   refine W.cl 44 [(.agg [.bool ar, .ints .u64 au, .ints .u64 av]), (.agg [.bool bl, .ints .u64 bm, .ints .u64 bn])] (.agg [.bool dd, .ints .u64 de, .ints .u64 df]) e4 ?_
   refine W.adv 6 (W.opS (O.ln bf E_api_Hop) ?_)
   exact W.adv 4 (W.tl H)
  ·refine W.cf ((bf.length : Int) = 0) d6 ?_
   refine W.adv 5 (W.opS (O.ln bf E_api_Hop) ?_)
   exact W.adv 4 (W.tl H)
 ·refine W.cf (an < aw) d5 ?_
  refine W.adv 10 (W.opH (O.stV 22 ((jb 22).ver + 1) 0 0 5 5 [(.agg [.nilS, .nilS, .bool false, .nilS, .nilS])] [(.agg [.nilS, .nilS, .bool ar, .ints .u64 au, .ints .u64 av])] (.agg [.nilS, .nilS, .bool false, .nilS, .nilS]) (.agg [.nilS, .nilS, .bool ar, .ints .u64 au, .ints .u64 av])) ?_)
  refine W.adv 7 (W.opS (O.ln ay E_api_Node) ?_)
  exact W.adv 4 (W.tl (P := step_Of_l2_s (ay.length : Int) 0 q ar au av l ([] : List T_api_Rat) .nilS (jb 157)) (H _ _ Opt.nil))
theorem step_Of_l1_go (H : (ba < bw ∧ 0 ≤ ba ∧ ba < (b0.length : Int) ∧ ∃ cc cv, b0.getD (ba).toNat (ByteArray.empty, 0) = (cc, cv) ∧ ∃ bp, mget cc ap = some bp ∧ ((∃ b1, mget bp l = some b1 ∧ ∃ bs, mget bp l = some bs ∧ ba < (br.length : Int) ∧ ∃ cw cy cz, br.getD (ba).toNat (false, [], []) = (cw, cy, cz) ∧ ∃ c0 c1 c2, rat_Mul_R bg bi bk cw cy cz c0 c1 c2 ∧ ∃ dg di dk, rat_Add_R bs.1 bs.2.1 bs.2.2 c0 c1 c2 dg di dk ∧ ∃ d3, d3 = mput bp (dg, di, dk) l ∧ step_Of_l1 br a2 aw an b0 bw (wi (ba + 1)) bb ay bc bd q a3 a4 a5 a6 a7 a8 ap a9 ar au av b2 bg bi bk d3 ac ad ae af ag ai) ∨ mget bp l = none ∧ ∃ dl dm dn, rat_Of_R 0 dl dm dn ∧ ∃ c3, c3 = mput bp (dl, dm, dn) l ∧ ∃ bt, mget bp c3 = some bt ∧ ba < (br.length : Int) ∧ ∃ c4 c5 c6, br.getD (ba).toNat (false, [], []) = (c4, c5, c6) ∧ ∃ c7 c8 c9, rat_Mul_R bg bi bk c4 c5 c6 c7 c8 c9 ∧ ∃ dp dq dr, rat_Add_R bt.1 bt.2.1 bt.2.2 c7 c8 c9 dp dq dr ∧ ∃ d4, d4 = mput bp (dp, dq, dr) c3 ∧ step_Of_l1 br a2 aw an b0 bw (wi (ba + 1)) bb ay bc bd q a3 a4 a5 a6 a7 a8 ap a9 ar au av b2 bg bi bk d4 ac ad ae af ag ai)) ∨ ¬ ba < bw ∧ step_Of_l0 a2 aw (wi (an + 1)) bb ay bc bd q a3 a4 a5 a6 a7 a8 ap a9 ar au av l ac ad ae af ag ai) : step_Of_l1 br a2 aw an b0 bw ba bb ay bc bd q a3 a4 a5 a6 a7 a8 ap a9 ar au av b2 bg bi bk l ac ad ae af ag ai := by
 intro j jb vs
 refine W.adv 1 (W.adv 6 ?_)
 rcases H with ⟨d7, H⟩ | ⟨d7, H⟩
 ·refine W.ct (ba < bw) d7 ?_
  refine W.adv 7 ?_
  obtain ⟨d8, fa, H⟩ := H
  obtain ⟨cc, cv, fb, H⟩ := H
  refine W.opS (O.ixE E_api_Hop 2 .i64 b0 ba (ByteArray.empty, 0) (cc, cv) d8 fa fb) ?_
  refine W.adv 3 (W.opH (O.stV 18 ((jb 18).ver + 1) 0 0 2 2 [(.agg [.str ⟨#[]⟩, .int .i64 0])] [(.agg [.str cc, .int .i64 cv])] (.agg [.str ⟨#[]⟩, .int .i64 0]) (.agg [.str cc, .int .i64 cv])) ?_)
  refine W.adv 7 (W.opS (O.ldV 18 ((jb 18).ver + 1) 0 0 2 1 false false [(.agg [.str cc, .int .i64 cv])] (.str cc)) ?_)
  obtain ⟨bp, fc, H⟩ := H
  refine W.opS (OpIs.lkSomeF (kd := .string) (z := (.int .i64 0)) (ok := false) (ek := E_string) (ev := E_int) (k := cc) (L := ap) (x := bp) (r := (.int .i64 bp)) (by kernel_rfl) sameD_str fc rfl) ?_
  refine W.adv 8 ?_
  rcases H with ⟨b1, d9, H⟩ | ⟨d9, H⟩
  ·refine W.opS (OpIs.lkSome (kd := .int .i64) (z := (.agg [.bool false, .nilS, .nilS])) (ok := true) (fz := false) (b := 69) (v := 1) (w := 1) (ek := E_int) (ev := E_api_Rat) (k := bp) (L := l) (x := b1) (r := (.tuple [(.agg [.bool b1.1, .ints .u64 b1.2.1, .ints .u64 b1.2.2]), .bool true])) (by kernel_rfl) rfl (sameD_int .i64) d9 rfl) ?_
   refine W.adv 4 (W.opH (O.stV 20 ((jb 20).ver + 1) 0 0 3 3 [(.agg [.bool false, .nilS, .nilS])] [(.agg [.bool b1.1, .ints .u64 b1.2.1, .ints .u64 b1.2.2])] (.agg [.bool false, .nilS, .nilS]) (.agg [.bool b1.1, .ints .u64 b1.2.1, .ints .u64 b1.2.2])) ?_)
   refine W.adv 17 ?_
   obtain ⟨bs, fd, H⟩ := H
   refine W.opS (OpIs.lkSome (kd := .int .i64) (z := (.agg [.bool false, .nilS, .nilS])) (ok := false) (fz := false) (b := 69) (v := 1) (w := 1) (ek := E_int) (ev := E_api_Rat) (k := bp) (L := l) (x := bs) (r := (.agg [.bool bs.1, .ints .u64 bs.2.1, .ints .u64 bs.2.2])) (by kernel_rfl) rfl (sameD_int .i64) fd rfl) ?_
   refine W.adv 1 (W.opS (O.ldV 13 ((vs 13) + 1) 0 1 4 3 true true [(.agg [.int .u64 b2, .bool bg, .ints .u64 bi, .ints .u64 bk])] (.agg [.bool bg, .ints .u64 bi, .ints .u64 bk])) ?_)
   refine W.adv 2 ?_
   obtain ⟨fe, H⟩ := H
   obtain ⟨cw, cy, cz, fg, H⟩ := H
   refine W.opS (O.ixE E_api_Rat 3 .i64 br ba (false, [], []) (cw, cy, cz) d8 fe fg) ?_
   refine W.adv 1 ?_
   obtain ⟨c0, c1, c2, fi, H⟩ := H
   refine W.cl 45 [(.agg [.bool bg, .ints .u64 bi, .ints .u64 bk]), (.agg [.bool cw, .ints .u64 cy, .ints .u64 cz])] (.agg [.bool c0, .ints .u64 c1, .ints .u64 c2]) fi ?_
   obtain ⟨dg, di, dk, fk, H⟩ := H
   refine W.cl 44 [(.agg [.bool bs.1, .ints .u64 bs.2.1, .ints .u64 bs.2.2]), (.agg [.bool c0, .ints .u64 c1, .ints .u64 c2])] (.agg [.bool dg, .ints .u64 di, .ints .u64 dk]) fk ?_
   obtain ⟨d3, fl, H⟩ := H
   refine W.opH (OpIs.mu (kd := .int .i64) (b := 69) (v := 1) (w := 1) (ek := E_int) (ev := E_api_Rat) (k := bp) (x := (dg, di, dk)) (L := l) (by kernel_rfl) fl rfl (sameD_int .i64)) ?_
   exact W.adv 8 (W.tl H)
  ·refine W.opS (OpIs.lkNone (kd := .int .i64) (z := (.agg [.bool false, .nilS, .nilS])) (ok := true) (fz := false) (b := 69) (v := 1) (w := 1) (ek := E_int) (ev := E_api_Rat) (k := bp) (L := l) (r := (.tuple [(.agg [.bool false, .nilS, .nilS]), .bool false])) (by kernel_rfl) rfl (sameD_int .i64) d9 rfl) ?_
   refine W.adv 4 (W.opH (O.stV 20 ((jb 20).ver + 1) 0 0 3 3 [(.agg [.bool false, .nilS, .nilS])] [(.agg [.bool false, .nilS, .nilS])] (.agg [.bool false, .nilS, .nilS]) (.agg [.bool false, .nilS, .nilS])) ?_)
   refine W.adv 13 ?_
   obtain ⟨dl, dm, dn, fm, H⟩ := H
   refine W.cl 38 [.int .i64 0] (.agg [.bool dl, .ints .u64 dm, .ints .u64 dn]) fm ?_
   obtain ⟨c3, fp, H⟩ := H
   refine W.opH (OpIs.mu (kd := .int .i64) (b := 69) (v := 1) (w := 1) (ek := E_int) (ev := E_api_Rat) (k := bp) (x := (dl, dm, dn)) (L := l) (by kernel_rfl) fp rfl (sameD_int .i64)) ?_
   refine W.adv 7 ?_
   obtain ⟨bt, fq, H⟩ := H
   refine W.opS (OpIs.lkSome (kd := .int .i64) (z := (.agg [.bool false, .nilS, .nilS])) (ok := false) (fz := false) (b := 69) (v := 1) (w := 1) (ek := E_int) (ev := E_api_Rat) (k := bp) (L := c3) (x := bt) (r := (.agg [.bool bt.1, .ints .u64 bt.2.1, .ints .u64 bt.2.2])) (by kernel_rfl) rfl (sameD_int .i64) fq rfl) ?_
   refine W.adv 1 (W.opS (O.ldV 13 ((vs 13) + 1) 0 1 4 3 true true [(.agg [.int .u64 b2, .bool bg, .ints .u64 bi, .ints .u64 bk])] (.agg [.bool bg, .ints .u64 bi, .ints .u64 bk])) ?_)
   refine W.adv 2 ?_
   obtain ⟨fr, H⟩ := H
   obtain ⟨c4, c5, c6, fs, H⟩ := H
   refine W.opS (O.ixE E_api_Rat 3 .i64 br ba (false, [], []) (c4, c5, c6) d8 fr fs) ?_
   refine W.adv 1 ?_
   obtain ⟨c7, c8, c9, ft, H⟩ := H
   refine W.cl 45 [(.agg [.bool bg, .ints .u64 bi, .ints .u64 bk]), (.agg [.bool c4, .ints .u64 c5, .ints .u64 c6])] (.agg [.bool c7, .ints .u64 c8, .ints .u64 c9]) ft ?_
   obtain ⟨dp, dq, dr, fu, H⟩ := H
   refine W.cl 44 [(.agg [.bool bt.1, .ints .u64 bt.2.1, .ints .u64 bt.2.2]), (.agg [.bool c7, .ints .u64 c8, .ints .u64 c9])] (.agg [.bool dp, .ints .u64 dq, .ints .u64 dr]) fu ?_
   obtain ⟨d4, fv, H⟩ := H
   refine W.opH (OpIs.mu (kd := .int .i64) (b := 69) (v := 1) (w := 1) (ek := E_int) (ev := E_api_Rat) (k := bp) (x := (dp, dq, dr)) (L := c3) (by kernel_rfl) fv rfl (sameD_int .i64)) ?_
   exact W.adv 8 (W.tl H)
 ·refine W.cf (ba < bw) d7 ?_
  exact W.adv 11 (W.tl H)
theorem step_Of_l2_go (H : ab < am ∧ ((∃ u, mget ab l = some u ∧ ∃ ck, rat_Sign_R u.1 u.2.1 u.2.2 ck ∧ (ck = 0 ∧ step_Of_l2 am (wi (ab + 1)) q c e f l p ac ad ae af ag ai ∨ ¬ ck = 0 ∧ (1 + 192) * (8 + 1) ≤ 70368744177664 ∧ ∃ da, da = [ab] ∧ (p.length + 1 + 192) * (56 + 1) ≤ 70368744177664 ∧ ∃ b9, b9 = p ++ [(u.1, u.2.1, u.2.2)] ∧ step_Of_l3 am (wi (ab + 1)) q c e f l da b9 ac ad ae af ag ai)) ∨ mget ab l = none ∧ step_Of_l2 am (wi (ab + 1)) q c e f l p ac ad ae af ag ai) ∨ ¬ ab < am ∧ ac = [] ∧ ad = p ∧ ae = c ∧ af = e ∧ ag = f ∧ ai = 0) : step_Of_l2 am ab q c e f l p ac ad ae af ag ai := by
 intro az aq cd j jb vs
 refine W.adv 1 (W.adv 6 ?_)
 rcases H with ⟨ea, H⟩ | ⟨ea, H⟩
 ·refine W.ct (ab < am) ea ?_
  refine W.adv 14 ?_
  rcases H with ⟨u, ec, H⟩ | ⟨ec, H⟩
  ·refine W.opS (OpIs.lkSome (kd := .int .i64) (z := (.agg [.bool false, .nilS, .nilS])) (ok := true) (fz := false) (b := 69) (v := 1) (w := 1) (ek := E_int) (ev := E_api_Rat) (k := ab) (L := l) (x := u) (r := (.tuple [(.agg [.bool u.1, .ints .u64 u.2.1, .ints .u64 u.2.2]), .bool true])) (by kernel_rfl) rfl (sameD_int .i64) ec rfl) ?_
   refine W.adv 4 (W.opH (O.stV 24 ((jb 24).ver + 1) 0 0 3 3 [(.agg [.bool false, .nilS, .nilS])] [(.agg [.bool u.1, .ints .u64 u.2.1, .ints .u64 u.2.2])] (.agg [.bool false, .nilS, .nilS]) (.agg [.bool u.1, .ints .u64 u.2.1, .ints .u64 u.2.2])) ?_)
   refine W.adv 8 (W.opS (O.ldV 24 ((jb 24).ver + 1) 0 0 3 3 false true [(.agg [.bool u.1, .ints .u64 u.2.1, .ints .u64 u.2.2])] (.agg [.bool u.1, .ints .u64 u.2.1, .ints .u64 u.2.2])) ?_)
   refine W.adv 1 ?_
   obtain ⟨ck, fw, H⟩ := H
   refine W.cl 25 [(.agg [.bool u.1, .ints .u64 u.2.1, .ints .u64 u.2.2])] (.int .i64 ck) fw ?_
   refine W.adv 5 ?_
   rcases H with ⟨ed, H⟩ | ⟨ed, H⟩
   ·refine W.cb false (!(decide (ck = 0))) (congrArg (fun b => !b) (decide_eq_true ed)) ?_
    exact W.adv 8 (W.tl (H _ _ cd))
   ·refine W.cb true (!(decide (ck = 0))) (congrArg (fun b => !b) (decide_eq_false ed)) ?_
    refine W.adv 2 (W.opS (O.ldV 22 ((vs 22) + 1) 0 0 5 1 false false [(.agg [.nilS, az, .bool c, .ints .u64 e, .ints .u64 f])] .nilS) ?_)
    refine W.adv 2 ?_
    obtain ⟨fy, H⟩ := H
    obtain ⟨da, eu, H⟩ := H
    have ew : 1 = da.length := by rw [eu] <;> rfl
    refine W.opH (O.apNil (.lit (.ints .i64 [ab])) 8 152 ((jb 152).ver) .i64 [ab] eu fy) ?_
    refine W.adv 1 (W.opS (O.ldV 22 ((vs 22) + 1) 0 1 5 1 false false [(.agg [.nilS, az, .bool c, .ints .u64 e, .ints .u64 f])] az) ?_)
    refine W.opS (O.ldV 24 ((jb 24).ver + 1) 0 0 3 3 false true [(.agg [.bool u.1, .ints .u64 u.2.1, .ints .u64 u.2.2])] (.agg [.bool u.1, .ints .u64 u.2.1, .ints .u64 u.2.2])) ?_
    refine W.adv 1 ?_
    rcases cd with ⟨rfl, cl⟩ | ⟨ak, rfl, rfl⟩
    ·subst cl
     obtain ⟨ee, H⟩ := H
     obtain ⟨b9, dt, H⟩ := H
     have ef : 1 = b9.length := by rw [dt] <;> rfl
     refine W.opH (O.apENil E_api_Rat (.lit (.list 3 [(.agg [.bool u.1, .ints .u64 u.2.1, .ints .u64 u.2.2])])) 56 157 aq.ver 3 [(u.1, u.2.1, u.2.2)] (dt.trans (List.nil_append _)) (by first | (simp; done) | (simp at ee ⊢; omega) | omega)) ?_
     refine W.adv 1 (W.opH (O.stV 22 ((vs 22) + 1) 0 0 5 1 [(.agg [.nilS, .nilS, .bool c, .ints .u64 e, .ints .u64 f])] [(.agg [(.sref 152 ((jb 152).ver + 1) 1 0 1), .nilS, .bool c, .ints .u64 e, .ints .u64 f])] (.agg [.nilS, .nilS, .bool c, .ints .u64 e, .ints .u64 f]) (.sref 152 ((jb 152).ver + 1) 1 0 1)) ?_)
     refine W.adv 1 (W.opH (O.stV 22 ((vs 22) + 1) 0 1 5 1 [(.agg [(.sref 152 ((jb 152).ver + 1) 1 0 1), .nilS, .bool c, .ints .u64 e, .ints .u64 f])] [(.agg [(.sref 152 ((jb 152).ver + 1) 1 0 1), (.sref 157 (aq.ver + 1) 3 0 1), .bool c, .ints .u64 e, .ints .u64 f])] (.agg [(.sref 152 ((jb 152).ver + 1) 1 0 1), .nilS, .bool c, .ints .u64 e, .ints .u64 f]) (.sref 157 (aq.ver + 1) 3 0 1)) ?_)
     exact W.adv 8 (W.tl (P := step_Of_l3_s am (wi (ab + 1)) q c e f l da b9 1 (.sref 157 (aq.ver + 1) 3 0 1) (⟨(aq.ver + 1), false, .rows 3 (b9.map E_api_Rat)⟩)) (H _ ew _ _ (Opt.row (w := aq.ver) (by first | rfl | omega) ef)))
    ·obtain ⟨ee, H⟩ := H
     obtain ⟨b9, dt, H⟩ := H
     have ef : (p.length + 1) = b9.length := by rw [dt, List.length_append] <;> rfl
     refine W.opK (O.apERow E_api_Rat (.lit (.list 3 [(.agg [.bool u.1, .ints .u64 u.2.1, .ints .u64 u.2.2])])) 56 157 (ak + 1) 157 (ak + 1) p.length 3 p [(u.1, u.2.1, u.2.2)] dt rfl ee) ?_
     refine W.adv 1 (W.opH (O.stV 22 ((vs 22) + 1) 0 0 5 1 [(.agg [.nilS, (.sref 157 (ak + 1) 3 0 p.length), .bool c, .ints .u64 e, .ints .u64 f])] [(.agg [(.sref 152 ((jb 152).ver + 1) 1 0 1), (.sref 157 (ak + 1) 3 0 p.length), .bool c, .ints .u64 e, .ints .u64 f])] (.agg [.nilS, (.sref 157 (ak + 1) 3 0 p.length), .bool c, .ints .u64 e, .ints .u64 f]) (.sref 152 ((jb 152).ver + 1) 1 0 1)) ?_)
     refine W.adv 1 (W.opH (O.stV 22 ((vs 22) + 1) 0 1 5 1 [(.agg [(.sref 152 ((jb 152).ver + 1) 1 0 1), (.sref 157 (ak + 1) 3 0 p.length), .bool c, .ints .u64 e, .ints .u64 f])] [(.agg [(.sref 152 ((jb 152).ver + 1) 1 0 1), (.sref 157 ((ak + 1) + 1) 3 0 (p.length + 1)), .bool c, .ints .u64 e, .ints .u64 f])] (.agg [(.sref 152 ((jb 152).ver + 1) 1 0 1), (.sref 157 (ak + 1) 3 0 p.length), .bool c, .ints .u64 e, .ints .u64 f]) (.sref 157 ((ak + 1) + 1) 3 0 (p.length + 1))) ?_)
     exact W.adv 8 (W.tl (P := step_Of_l3_s am (wi (ab + 1)) q c e f l da b9 1 (.sref 157 ((ak + 1) + 1) 3 0 (p.length + 1)) (⟨((ak + 1) + 1), false, .rows 3 (b9.map E_api_Rat)⟩)) (H _ ew _ _ (Opt.row (w := (ak + 1)) (by first | rfl | omega) ef)))
  ·refine W.opS (OpIs.lkNone (kd := .int .i64) (z := (.agg [.bool false, .nilS, .nilS])) (ok := true) (fz := false) (b := 69) (v := 1) (w := 1) (ek := E_int) (ev := E_api_Rat) (k := ab) (L := l) (r := (.tuple [(.agg [.bool false, .nilS, .nilS]), .bool false])) (by kernel_rfl) rfl (sameD_int .i64) ec rfl) ?_
   refine W.adv 4 (W.opH (O.stV 24 ((jb 24).ver + 1) 0 0 3 3 [(.agg [.bool false, .nilS, .nilS])] [(.agg [.bool false, .nilS, .nilS])] (.agg [.bool false, .nilS, .nilS]) (.agg [.bool false, .nilS, .nilS])) ?_)
   exact W.adv 22 (W.tl (H _ _ cd))
 ·refine W.cf (ab < am) ea ?_
  refine W.adv 7 (W.opS (O.ldV 22 ((vs 22) + 1) 0 0 5 5 false true [(.agg [.nilS, az, .bool c, .ints .u64 e, .ints .u64 f])] (.agg [.nilS, az, .bool c, .ints .u64 e, .ints .u64 f])) ?_)
  refine W.adv 5 ?_
  rcases cd with ⟨rfl, cl⟩ | ⟨ak, rfl, rfl⟩
  ·subst cl
   exact W.fr (Ans.q (.tuple [(.agg [.ints .i64 [], (.list 3 (([] : List T_api_Rat).map E_api_Rat)), .bool c, .ints .u64 e, .ints .u64 f]), .int .i64 0]) (by rw [H.1, H.2.1, H.2.2.1, H.2.2.2.1, H.2.2.2.2.1, H.2.2.2.2.2]))
  ·exact W.fr (Ans.of (d := (.tuple [(.agg [.nilS, (.sref 157 (ak + 1) 3 0 p.length), .bool c, .ints .u64 e, .ints .u64 f]), .int .i64 0])) (d' := (.tuple [(.agg [.nilS, (.list 3 (p.map E_api_Rat)), .bool c, .ints .u64 e, .ints .u64 f]), .int .i64 0])) (e' := (.tuple [(.agg [.ints .i64 [], (.list 3 (p.map E_api_Rat)), .bool c, .ints .u64 e, .ints .u64 f]), .int .i64 0])) (by kernel_rfl) ((congrArg (fun h => reify h DEPTH (.tuple [(.agg [.nilS, (.sref 157 (ak + 1) 3 0 p.length), .bool c, .ints .u64 e, .ints .u64 f]), .int .i64 0])) (tidy_ver (b := 157) (v := ak) (fz := false) (y := .rows 3 (p.map E_api_Rat)) (by kernel_rfl))).trans (rf_tup (rf_cons (rf_agg (rf_cons (by kernel_rfl) (rf_cons (rf_fullE (enc := E_api_Rat) E_api_Rat_t (b := 157) (v := (ak + 1)) (w := (ak + 1)) (fz := false) (xs := p) (by kernel_rfl) rfl rfl) (rf_cons (by kernel_rfl) (rf_cons (by kernel_rfl) (rf_cons (by kernel_rfl) rf_nil)))))) (rf_cons (by kernel_rfl) rf_nil)))) (by kernel_rfl) (by rw [H.1, H.2.1, H.2.2.1, H.2.2.2.1, H.2.2.2.2.1, H.2.2.2.2.2]))
theorem step_Of_l3_go (H : ab < am ∧ ((∃ aa, mget ab l = some aa ∧ ∃ cm, rat_Sign_R aa.1 aa.2.1 aa.2.2 cm ∧ (cm = 0 ∧ step_Of_l3 am (wi (ab + 1)) q c e f l al p ac ad ae af ag ai ∨ ¬ cm = 0 ∧ (al.length + 1 + 192) * (8 + 1) ≤ 70368744177664 ∧ ∃ db, db = al ++ [ab] ∧ (p.length + 1 + 192) * (56 + 1) ≤ 70368744177664 ∧ ∃ ca, ca = p ++ [(aa.1, aa.2.1, aa.2.2)] ∧ step_Of_l3 am (wi (ab + 1)) q c e f l db ca ac ad ae af ag ai)) ∨ mget ab l = none ∧ step_Of_l3 am (wi (ab + 1)) q c e f l al p ac ad ae af ag ai) ∨ ¬ ab < am ∧ ac = al ∧ ad = p ∧ ae = c ∧ af = e ∧ ag = f ∧ ai = 0) : step_Of_l3 am ab q c e f l al p ac ad ae af ag ai := by
 intro be du az aq cd j jb vs
 refine W.adv 1 (W.adv 6 ?_)
 rcases H with ⟨eg, H⟩ | ⟨eg, H⟩
 ·refine W.ct (ab < am) eg ?_
  refine W.adv 14 ?_
  rcases H with ⟨aa, ei, H⟩ | ⟨ei, H⟩
  ·refine W.opS (OpIs.lkSome (kd := .int .i64) (z := (.agg [.bool false, .nilS, .nilS])) (ok := true) (fz := false) (b := 69) (v := 1) (w := 1) (ek := E_int) (ev := E_api_Rat) (k := ab) (L := l) (x := aa) (r := (.tuple [(.agg [.bool aa.1, .ints .u64 aa.2.1, .ints .u64 aa.2.2]), .bool true])) (by kernel_rfl) rfl (sameD_int .i64) ei rfl) ?_
   refine W.adv 4 (W.opH (O.stV 24 ((jb 24).ver + 1) 0 0 3 3 [(.agg [.bool false, .nilS, .nilS])] [(.agg [.bool aa.1, .ints .u64 aa.2.1, .ints .u64 aa.2.2])] (.agg [.bool false, .nilS, .nilS]) (.agg [.bool aa.1, .ints .u64 aa.2.1, .ints .u64 aa.2.2])) ?_)
   refine W.adv 8 (W.opS (O.ldV 24 ((jb 24).ver + 1) 0 0 3 3 false true [(.agg [.bool aa.1, .ints .u64 aa.2.1, .ints .u64 aa.2.2])] (.agg [.bool aa.1, .ints .u64 aa.2.1, .ints .u64 aa.2.2])) ?_)
   refine W.adv 1 ?_
   obtain ⟨cm, f0, H⟩ := H
   refine W.cl 25 [(.agg [.bool aa.1, .ints .u64 aa.2.1, .ints .u64 aa.2.2])] (.int .i64 cm) f0 ?_
   refine W.adv 5 ?_
   rcases H with ⟨el, H⟩ | ⟨el, H⟩
   ·refine W.cb false (!(decide (cm = 0))) (congrArg (fun b => !b) (decide_eq_true el)) ?_
    exact W.adv 8 (W.tl (H _ du _ _ cd))
   ·refine W.cb true (!(decide (cm = 0))) (congrArg (fun b => !b) (decide_eq_false el)) ?_
    refine W.adv 2 (W.opS (O.ldV 22 ((vs 22) + 1) 0 0 5 1 false false [(.agg [(.sref 152 ((vs 152) + 1) 1 0 be), az, .bool c, .ints .u64 e, .ints .u64 f])] (.sref 152 ((vs 152) + 1) 1 0 be)) ?_)
    refine W.adv 2 ?_
    obtain ⟨f1, H⟩ := H
    obtain ⟨db, ey, H⟩ := H
    have ez : (al.length + 1) = db.length := by rw [ey, List.length_append] <;> rfl
    refine W.opK (O.apRow (.lit (.ints .i64 [ab])) 8 152 ((vs 152) + 1) 152 ((vs 152) + 1) be .i64 al [ab] ey du f1) ?_
    refine W.adv 1 (W.opS (O.ldV 22 ((vs 22) + 1) 0 1 5 1 false false [(.agg [(.sref 152 ((vs 152) + 1) 1 0 be), az, .bool c, .ints .u64 e, .ints .u64 f])] az) ?_)
    refine W.opS (O.ldV 24 ((jb 24).ver + 1) 0 0 3 3 false true [(.agg [.bool aa.1, .ints .u64 aa.2.1, .ints .u64 aa.2.2])] (.agg [.bool aa.1, .ints .u64 aa.2.1, .ints .u64 aa.2.2])) ?_
    refine W.adv 1 ?_
    rcases cd with ⟨rfl, cl⟩ | ⟨ak, rfl, rfl⟩
    ·subst cl
     obtain ⟨em, H⟩ := H
     obtain ⟨ca, dw, H⟩ := H
     have en : 1 = ca.length := by rw [dw] <;> rfl
     refine W.opH (O.apENil E_api_Rat (.lit (.list 3 [(.agg [.bool aa.1, .ints .u64 aa.2.1, .ints .u64 aa.2.2])])) 56 157 aq.ver 3 [(aa.1, aa.2.1, aa.2.2)] (dw.trans (List.nil_append _)) (by first | (simp; done) | (simp at em ⊢; omega) | omega)) ?_
     refine W.adv 1 (W.opH (O.stV 22 ((vs 22) + 1) 0 0 5 1 [(.agg [(.sref 152 ((vs 152) + 1) 1 0 be), .nilS, .bool c, .ints .u64 e, .ints .u64 f])] [(.agg [(.sref 152 (((vs 152) + 1) + 1) 1 0 (al.length + 1)), .nilS, .bool c, .ints .u64 e, .ints .u64 f])] (.agg [(.sref 152 ((vs 152) + 1) 1 0 be), .nilS, .bool c, .ints .u64 e, .ints .u64 f]) (.sref 152 (((vs 152) + 1) + 1) 1 0 (al.length + 1))) ?_)
     refine W.adv 1 (W.opH (O.stV 22 ((vs 22) + 1) 0 1 5 1 [(.agg [(.sref 152 (((vs 152) + 1) + 1) 1 0 (al.length + 1)), .nilS, .bool c, .ints .u64 e, .ints .u64 f])] [(.agg [(.sref 152 (((vs 152) + 1) + 1) 1 0 (al.length + 1)), (.sref 157 (aq.ver + 1) 3 0 1), .bool c, .ints .u64 e, .ints .u64 f])] (.agg [(.sref 152 (((vs 152) + 1) + 1) 1 0 (al.length + 1)), .nilS, .bool c, .ints .u64 e, .ints .u64 f]) (.sref 157 (aq.ver + 1) 3 0 1)) ?_)
     exact W.adv 8 (W.tl (P := step_Of_l3_s am (wi (ab + 1)) q c e f l db ca (al.length + 1) (.sref 157 (aq.ver + 1) 3 0 1) (⟨(aq.ver + 1), false, .rows 3 (ca.map E_api_Rat)⟩)) (H _ ez _ _ (Opt.row (w := aq.ver) (by first | rfl | omega) en)))
    ·obtain ⟨em, H⟩ := H
     obtain ⟨ca, dw, H⟩ := H
     have en : (p.length + 1) = ca.length := by rw [dw, List.length_append] <;> rfl
     refine W.opK (O.apERow E_api_Rat (.lit (.list 3 [(.agg [.bool aa.1, .ints .u64 aa.2.1, .ints .u64 aa.2.2])])) 56 157 (ak + 1) 157 (ak + 1) p.length 3 p [(aa.1, aa.2.1, aa.2.2)] dw rfl em) ?_
     refine W.adv 1 (W.opH (O.stV 22 ((vs 22) + 1) 0 0 5 1 [(.agg [(.sref 152 ((vs 152) + 1) 1 0 be), (.sref 157 (ak + 1) 3 0 p.length), .bool c, .ints .u64 e, .ints .u64 f])] [(.agg [(.sref 152 (((vs 152) + 1) + 1) 1 0 (al.length + 1)), (.sref 157 (ak + 1) 3 0 p.length), .bool c, .ints .u64 e, .ints .u64 f])] (.agg [(.sref 152 ((vs 152) + 1) 1 0 be), (.sref 157 (ak + 1) 3 0 p.length), .bool c, .ints .u64 e, .ints .u64 f]) (.sref 152 (((vs 152) + 1) + 1) 1 0 (al.length + 1))) ?_)
     refine W.adv 1 (W.opH (O.stV 22 ((vs 22) + 1) 0 1 5 1 [(.agg [(.sref 152 (((vs 152) + 1) + 1) 1 0 (al.length + 1)), (.sref 157 (ak + 1) 3 0 p.length), .bool c, .ints .u64 e, .ints .u64 f])] [(.agg [(.sref 152 (((vs 152) + 1) + 1) 1 0 (al.length + 1)), (.sref 157 ((ak + 1) + 1) 3 0 (p.length + 1)), .bool c, .ints .u64 e, .ints .u64 f])] (.agg [(.sref 152 (((vs 152) + 1) + 1) 1 0 (al.length + 1)), (.sref 157 (ak + 1) 3 0 p.length), .bool c, .ints .u64 e, .ints .u64 f]) (.sref 157 ((ak + 1) + 1) 3 0 (p.length + 1))) ?_)
     exact W.adv 8 (W.tl (P := step_Of_l3_s am (wi (ab + 1)) q c e f l db ca (al.length + 1) (.sref 157 ((ak + 1) + 1) 3 0 (p.length + 1)) (⟨((ak + 1) + 1), false, .rows 3 (ca.map E_api_Rat)⟩)) (H _ ez _ _ (Opt.row (w := (ak + 1)) (by first | rfl | omega) en)))
  ·refine W.opS (OpIs.lkNone (kd := .int .i64) (z := (.agg [.bool false, .nilS, .nilS])) (ok := true) (fz := false) (b := 69) (v := 1) (w := 1) (ek := E_int) (ev := E_api_Rat) (k := ab) (L := l) (r := (.tuple [(.agg [.bool false, .nilS, .nilS]), .bool false])) (by kernel_rfl) rfl (sameD_int .i64) ei rfl) ?_
   refine W.adv 4 (W.opH (O.stV 24 ((jb 24).ver + 1) 0 0 3 3 [(.agg [.bool false, .nilS, .nilS])] [(.agg [.bool false, .nilS, .nilS])] (.agg [.bool false, .nilS, .nilS]) (.agg [.bool false, .nilS, .nilS])) ?_)
   exact W.adv 22 (W.tl (H _ du _ _ cd))
 ·refine W.cf (ab < am) eg ?_
  refine W.adv 7 (W.opS (O.ldV 22 ((vs 22) + 1) 0 0 5 5 false true [(.agg [(.sref 152 ((vs 152) + 1) 1 0 be), az, .bool c, .ints .u64 e, .ints .u64 f])] (.agg [(.sref 152 ((vs 152) + 1) 1 0 be), az, .bool c, .ints .u64 e, .ints .u64 f])) ?_)
  refine W.adv 5 ?_
  rcases cd with ⟨rfl, cl⟩ | ⟨ak, rfl, rfl⟩
  ·subst cl
   exact W.fr (Ans.of (d := (.tuple [(.agg [(.sref 152 ((vs 152) + 1) 1 0 be), .nilS, .bool c, .ints .u64 e, .ints .u64 f]), .int .i64 0])) (d' := (.tuple [(.agg [.ints .i64 al, .nilS, .bool c, .ints .u64 e, .ints .u64 f]), .int .i64 0])) (e' := (.tuple [(.agg [.ints .i64 al, (.list 3 (([] : List T_api_Rat).map E_api_Rat)), .bool c, .ints .u64 e, .ints .u64 f]), .int .i64 0])) (by kernel_rfl) ((congrArg (fun h => reify h DEPTH (.tuple [(.agg [(.sref 152 ((vs 152) + 1) 1 0 be), .nilS, .bool c, .ints .u64 e, .ints .u64 f]), .int .i64 0])) (tidy_ver (b := 152) (v := (vs 152)) (fz := false) (y := .ints .i64 al) (by kernel_rfl))).trans (rf_tup (rf_cons (rf_agg (rf_cons (rf_full (b := 152) (v := ((vs 152) + 1)) (w := ((vs 152) + 1)) (fz := false) (k := .i64) (xs := al) (by kernel_rfl) rfl du) (rf_cons (by kernel_rfl) (rf_cons (by kernel_rfl) (rf_cons (by kernel_rfl) (rf_cons (by kernel_rfl) rf_nil)))))) (rf_cons (by kernel_rfl) rf_nil)))) (by kernel_rfl) (by rw [H.1, H.2.1, H.2.2.1, H.2.2.2.1, H.2.2.2.2.1, H.2.2.2.2.2]))
  ·exact W.fr (Ans.of (d := (.tuple [(.agg [(.sref 152 ((vs 152) + 1) 1 0 be), (.sref 157 (ak + 1) 3 0 p.length), .bool c, .ints .u64 e, .ints .u64 f]), .int .i64 0])) (d' := (.tuple [(.agg [.ints .i64 al, (.list 3 (p.map E_api_Rat)), .bool c, .ints .u64 e, .ints .u64 f]), .int .i64 0])) (e' := (.tuple [(.agg [.ints .i64 al, (.list 3 (p.map E_api_Rat)), .bool c, .ints .u64 e, .ints .u64 f]), .int .i64 0])) (by kernel_rfl) ((congrArg (fun h => reify h DEPTH (.tuple [(.agg [(.sref 152 ((vs 152) + 1) 1 0 be), (.sref 157 (ak + 1) 3 0 p.length), .bool c, .ints .u64 e, .ints .u64 f]), .int .i64 0])) (tidy_ver (b := 152) (v := (vs 152)) (fz := false) (y := .ints .i64 al) (by kernel_rfl))).trans (rf_tup (rf_cons (rf_agg (rf_cons (rf_full (b := 152) (v := ((vs 152) + 1)) (w := ((vs 152) + 1)) (fz := false) (k := .i64) (xs := al) (by kernel_rfl) rfl du) (rf_cons (rf_fullE (enc := E_api_Rat) E_api_Rat_t (b := 157) (v := (ak + 1)) (w := (ak + 1)) (fz := false) (xs := p) (by kernel_rfl) rfl rfl) (rf_cons (by kernel_rfl) (rf_cons (by kernel_rfl) (rf_cons (by kernel_rfl) rf_nil)))))) (rf_cons (by kernel_rfl) rf_nil)))) (by kernel_rfl) (by rw [H.1, H.2.1, H.2.2.1, H.2.2.2.1, H.2.2.2.2.1, H.2.2.2.2.2]))
theorem step_Of_go (H : a0 < 0 ∧ ac = [] ∧ ad = ([] : List T_api_Rat) ∧ ae = false ∧ af = [] ∧ ag = [] ∧ ai = 9 ∨ ¬ a0 < 0 ∧ ((bq.length : Int) ≤ a0 ∧ ac = [] ∧ ad = ([] : List T_api_Rat) ∧ ae = false ∧ af = [] ∧ ag = [] ∧ ai = 9 ∨ ¬ (bq.length : Int) ≤ a0 ∧ 0 ≤ a0 ∧ a0 < (bq.length : Int) ∧ ∃ b3 b4 b5 bu b6, bq.getD (a0).toNat (ByteArray.empty, 0, 0, false, []) = (b3, b4, b5, bu, b6) ∧ ((bu = true ∧ ∃ cr cs ct, rat_Of_R 0 cr cs ct ∧ ac = [] ∧ ad = ([] : List T_api_Rat) ∧ ae = cr ∧ af = cs ∧ ag = ct ∧ ai = 0) ∨ ¬ bu = true ∧ ∃ dy dc cf b7, step_links_R cn cp cq bq b3 b4 b5 bu b6 dy dc cf b7 ∧ ((b7 = 0 ∧ ∃ ce b8, fail_All_R cf ce b8 ∧ ((b8 = 0 ∧ ∃ cg, step_light_R b3 b4 b5 bu b6 cg ∧ (cg = true ∧ ac = [] ∧ ad = ([] : List T_api_Rat) ∧ ae = false ∧ af = [] ∧ ag = [] ∧ ai = 2 ∨ ¬ cg = true ∧ ∃ dz d1 d2, rat_Of_R 0 dz d1 d2 ∧ step_Of_l0 ce (ce.length : Int) 0 cn cp cq bq false b3 b4 b5 bu b6 dy dc cf dz d1 d2 ([] : List (T_int × T_api_Rat)) ac ad ae af ag ai)) ∨ ¬ b8 = 0 ∧ ac = [] ∧ ad = ([] : List T_api_Rat) ∧ ae = false ∧ af = [] ∧ ag = [] ∧ ai = 2)) ∨ ¬ b7 = 0 ∧ ac = [] ∧ ad = ([] : List T_api_Rat) ∧ ae = false ∧ af = [] ∧ ag = [] ∧ ai = b7)))) : step_Of_R cn cp cq bq a0 ac ad ae af ag ai := by
 refine W.ii Tryz.func11 ?_
 refine W.adv 13 ?_
 rcases H with ⟨bz, H⟩ | ⟨bz, H⟩
 ·refine W.gt' (a0 < 0) bz ?_
  refine W.gt' (a0 < 0) bz ?_
  refine W.gt' (a0 < 0) bz ?_
  refine W.gt' (a0 < 0) bz ?_
  refine W.gt' (a0 < 0) bz ?_
  refine W.opS (O.pk (decide (a0 < 0)) true (.bool true) (.tuple []) (decide_eq_true bz)) ?_
  exact W.adv 12 (W.fr (Ans.q (.tuple [(.agg [.ints .i64 [], (.list 3 (([] : List T_api_Rat).map E_api_Rat)), .bool false, .ints .u64 [], .ints .u64 []]), .int .i64 9]) (by rw [H.1, H.2.1, H.2.2.1, H.2.2.2.1, H.2.2.2.2.1, H.2.2.2.2.2])))
 ·refine W.gf' (a0 < 0) bz ?_
  refine W.adv 1 (W.gf' (a0 < 0) bz ?_)
  refine W.adv 1 (W.gf' (a0 < 0) bz ?_)
  refine W.adv 1 (W.gf' (a0 < 0) bz ?_)
  refine W.opS (O.ln bq E_api_Rule) ?_
  refine W.gf' (a0 < 0) bz ?_
  refine W.adv 1 (W.opS (O.pk (decide (a0 < 0)) false (.bool true) (.bool (decide ((bq.length : Int) ≤ a0))) (decide_eq_false bz)) ?_)
  refine W.adv 2 ?_
  rcases H with ⟨ep, H⟩ | ⟨ep, H⟩
  ·refine W.ct ((bq.length : Int) ≤ a0) ep ?_
   exact W.adv 9 (W.fr (Ans.q (.tuple [(.agg [.ints .i64 [], (.list 3 (([] : List T_api_Rat).map E_api_Rat)), .bool false, .ints .u64 [], .ints .u64 []]), .int .i64 9]) (by rw [H.1, H.2.1, H.2.2.1, H.2.2.2.1, H.2.2.2.2.1, H.2.2.2.2.2])))
  ·refine W.cf ((bq.length : Int) ≤ a0) ep ?_
   refine W.adv 7 ?_
   obtain ⟨f2, f3, H⟩ := H
   obtain ⟨b3, b4, b5, bu, b6, f4, H⟩ := H
   refine W.opS (O.ixE E_api_Rule 5 .i64 bq a0 (ByteArray.empty, 0, 0, false, []) (b3, b4, b5, bu, b6) f2 f3 f4) ?_
   refine W.adv 12 ?_
   rcases H with ⟨eq, H⟩ | ⟨eq, H⟩
   ·refine W.cb true bu eq ?_
    refine W.adv 2 ?_
    obtain ⟨cr, cs, ct, f5, H⟩ := H
    refine W.cl 38 [.int .i64 0] (.agg [.bool cr, .ints .u64 cs, .ints .u64 ct]) f5 ?_
    exact W.adv 7 (W.fr (Ans.q (.tuple [(.agg [.ints .i64 [], (.list 3 (([] : List T_api_Rat).map E_api_Rat)), .bool cr, .ints .u64 cs, .ints .u64 ct]), .int .i64 0]) (by rw [H.1, H.2.1, H.2.2.1, H.2.2.2.1, H.2.2.2.2.1, H.2.2.2.2.2])))
   ·refine W.cb false bu (bfalse eq) ?_
    refine W.adv 6 ?_
    obtain ⟨dy, dc, cf, b7, f6, H⟩ := H
    refine W.cl 39 [(.agg [.str cn, (.list 2 (cp.map E_api_Node)), (.list 6 (cq.map E_api_Link)), (.list 5 (bq.map E_api_Rule))]), (.agg [.str b3, .int .u32 b4, .int .i64 b5, .bool bu, (.list 1 (b6.map E71))])] (.tuple [(.agg [(.list 1 (dy.map E_string)), (.mlit (mks E_string dc) (mvs E_int dc)), (.list 3 (cf.map E_api_Rat))]), .int .i64 b7]) f6 ?_
    refine W.adv 15 ?_
    rcases H with ⟨er, H⟩ | ⟨er, H⟩
    ·refine W.cb false (!(decide (b7 = 0))) (congrArg (fun b => !b) (decide_eq_true er)) ?_
     refine W.adv 6 ?_
     obtain ⟨ce, b8, f7, H⟩ := H
     refine W.cl 40 [(.list 3 (cf.map E_api_Rat))] (.tuple [(.list 4 (ce.map E_fail_Case)), .int .i64 b8]) f7 ?_
     refine W.adv 13 ?_
     rcases H with ⟨cu, H⟩ | ⟨cu, H⟩
     ·refine W.gb true ((!(decide (b8 = 0))) == false) (congrArg (fun b => b == false) (congrArg (fun b => !b) (decide_eq_true cu))) ?_
      refine W.adv 1 (W.gb true ((!(decide (b8 = 0))) == false) (congrArg (fun b => b == false) (congrArg (fun b => !b) (decide_eq_true cu))) ?_)
      obtain ⟨cg, f8, H⟩ := H
      refine W.cl 41 [(.agg [.str b3, .int .u32 b4, .int .i64 b5, .bool bu, (.list 1 (b6.map E71))])] (.bool cg) f8 ?_
      refine W.opS (O.pk (!(decide (b8 = 0))) false (.bool true) (.bool cg) (congrArg (fun b => !b) (decide_eq_true cu))) ?_
      refine W.adv 2 ?_
      rcases H with ⟨et, H⟩ | ⟨et, H⟩
      ·refine W.cb true cg et ?_
       exact W.adv 9 (W.fr (Ans.q (.tuple [(.agg [.ints .i64 [], (.list 3 (([] : List T_api_Rat).map E_api_Rat)), .bool false, .ints .u64 [], .ints .u64 []]), .int .i64 2]) (by rw [H.1, H.2.1, H.2.2.1, H.2.2.2.1, H.2.2.2.2.1, H.2.2.2.2.2])))
      ·refine W.cb false cg (bfalse et) ?_
       refine W.adv 4 ?_
       obtain ⟨dz, d1, d2, f9, H⟩ := H
       refine W.cl 38 [.int .i64 0] (.agg [.bool dz, .ints .u64 d1, .ints .u64 d2]) f9 ?_
       refine W.adv 10 (W.opS (O.ln ce E_fail_Case) ?_)
       exact W.adv 4 (W.tl H)
     ·refine W.gb false ((!(decide (b8 = 0))) == false) (congrArg (fun b => b == false) (congrArg (fun b => !b) (decide_eq_false cu))) ?_
      refine W.gb false ((!(decide (b8 = 0))) == false) (congrArg (fun b => b == false) (congrArg (fun b => !b) (decide_eq_false cu))) ?_
      refine W.opS (O.pk (!(decide (b8 = 0))) true (.bool true) (.tuple []) (congrArg (fun b => !b) (decide_eq_false cu))) ?_
      exact W.adv 12 (W.fr (Ans.q (.tuple [(.agg [.ints .i64 [], (.list 3 (([] : List T_api_Rat).map E_api_Rat)), .bool false, .ints .u64 [], .ints .u64 []]), .int .i64 2]) (by rw [H.1, H.2.1, H.2.2.1, H.2.2.2.1, H.2.2.2.2.1, H.2.2.2.2.2])))
    ·refine W.cb true (!(decide (b7 = 0))) (congrArg (fun b => !b) (decide_eq_false er)) ?_
     exact W.adv 10 (W.fr (Ans.q (.tuple [(.agg [.ints .i64 [], (.list 3 (([] : List T_api_Rat).map E_api_Rat)), .bool false, .ints .u64 [], .ints .u64 []]), .int .i64 b7]) (by rw [H.1, H.2.1, H.2.2.1, H.2.2.2.1, H.2.2.2.2.1, H.2.2.2.2.2])))
end
section
variable (bs : Int) (u : List T_string) (bg az bn am av bi bl : Int) (aa : ByteArray) (k : List T_api_Node) (f : List T_api_Link) (ab : List T_api_Rule) (ai : Bool) (ad : ByteArray) (ae af : Int) (ac : Bool) (c : List T71) (l : Bool) (p q : List Int) (a7 : Bool) (a8 a9 : List Int) (a0 : Bool) (a2 a3 : List Int) (e ag : List T_ref08_Q) (al : D) (ak : Blk) (ay : D) (aw : Blk) (d6 : ByteArray) (d7 : List T_api_Node) (d8 : List T_api_Link) (bq : List T_api_Rule) (ba : Int) (an : List T_ref08_Q) (ap : Bool) (aq ar : List Int) (au : Int)
noncomputable def ref30_Of_l0_s (bs : Int) (aa : ByteArray) (k : List T_api_Node) (f : List T_api_Link) (ab : List T_api_Rule) (ai : Bool) (ad : ByteArray) (ae af : Int) (ac : Bool) (c : List T71) (l : Bool) (p q : List Int) (e : List T_ref08_Q) (al : D) (ak : Blk) (j : Nat → D) (jb : Nat → Blk) (vs : Nat → Nat) : Cf := cfAt Tryz.f12 [1, 1, 1, 1, 0, 1, 0] ⟨([j 0, j 1, .pref 2 1 0 0, j 3, .pref 4 1 0 0, j 5, .pref 6 1 0 0, .pref 7 1 0 0, .int .i64 bs] ++ J j 9 226), ([jb 0, jb 1, ⟨1, false, .rows 4 [(.agg [.str aa, (.list 2 (k.map E_api_Node)), (.list 6 (f.map E_api_Link)), (.list 5 (ab.map E_api_Rule))])]⟩, jb 3, ⟨1, false, .rows 4 [(.agg [.nilS, .bool ai, .nilS, .nilS])]⟩, jb 5, ⟨1, false, .rows 5 [(.agg [.str ad, .int .u32 ae, .int .i64 af, .bool ac, (.list 1 (c.map E71))])]⟩, ⟨1, false, .rows 4 [(.agg [al, .bool l, .ints .i64 p, .ints .i64 q])]⟩] ++ (J jb 8 43 ++ ([ak] ++ J jb 52 183)))⟩
def ref30_Of_l0 : Prop := ∀ al ak, Opt E_ref08_Q 51 3 al ak e → ∀ j jb vs, W C F 12 0 (ref30_Of_l0_s bs aa k f ab ai ad ae af ac c l p q e al ak j jb vs) (Ans C Tryz.f12 (.tuple [(.agg [(.list 3 (an.map E_ref08_Q)), .bool ap, .ints .i64 aq, .ints .i64 ar]), .int .i64 au]))
noncomputable def ref30_Of_l1_s (u : List T_string) (bg : Int) (aa : ByteArray) (k : List T_api_Node) (f : List T_api_Link) (ab : List T_api_Rule) (ai : Bool) (ad : ByteArray) (ae af : Int) (ac : Bool) (c : List T71) (l : Bool) (p q : List Int) (e ag : List T_ref08_Q) (al : D) (ak : Blk) (ay : D) (aw : Blk) (j : Nat → D) (jb : Nat → Blk) (vs : Nat → Nat) : Cf := cfAt Tryz.f12 [1, 1, 1, 1, 1, 1, 1, 1, 0, 1, 0] ⟨([j 0, j 1, .pref 2 1 0 0, j 3, .pref 4 1 0 0, j 5, .pref 6 1 0 0, .pref 7 1 0 0, j 8, (.list 1 (u.map E_string)), ay, .int .i64 bg] ++ J j 12 223), ([jb 0, jb 1, ⟨1, false, .rows 4 [(.agg [.str aa, (.list 2 (k.map E_api_Node)), (.list 6 (f.map E_api_Link)), (.list 5 (ab.map E_api_Rule))])]⟩, jb 3, ⟨1, false, .rows 4 [(.agg [.nilS, .bool ai, .nilS, .nilS])]⟩, jb 5, ⟨1, false, .rows 5 [(.agg [.str ad, .int .u32 ae, .int .i64 af, .bool ac, (.list 1 (c.map E71))])]⟩, ⟨1, false, .rows 4 [(.agg [al, .bool l, .ints .i64 p, .ints .i64 q])]⟩] ++ (J jb 8 43 ++ ([ak] ++ (J jb 52 42 ++ ([aw] ++ J jb 95 140)))))⟩
def ref30_Of_l1 : Prop := ∀ al ak, Opt E_ref08_Q 51 3 al ak e → ∀ ay aw, Opt E_ref08_Q 94 3 ay aw ag → ∀ j jb vs, W C F 12 0 (ref30_Of_l1_s u bg aa k f ab ai ad ae af ac c l p q e ag al ak ay aw j jb vs) (Ans C Tryz.f12 (.tuple [(.agg [(.list 3 (an.map E_ref08_Q)), .bool ap, .ints .i64 aq, .ints .i64 ar]), .int .i64 au]))
noncomputable def ref30_Of_l2_s (u : List T_string) (az : Int) (aa : ByteArray) (k : List T_api_Node) (f : List T_api_Link) (ab : List T_api_Rule) (ai : Bool) (ad : ByteArray) (ae af : Int) (ac : Bool) (c : List T71) (l : Bool) (p q : List Int) (e ag : List T_ref08_Q) (al : D) (ak : Blk) (ay : D) (aw : Blk) (j : Nat → D) (jb : Nat → Blk) (vs : Nat → Nat) : Cf := cfAt Tryz.f12 [1, 1, 1, 1, 1, 1, 1, 1, 1, 1, 0, 1, 0] ⟨([j 0, j 1, .pref 2 1 0 0, j 3, .pref 4 1 0 0, j 5, .pref 6 1 0 0, .pref 7 1 0 0, j 8, (.list 1 (u.map E_string)), ay, j 11, j 12, .int .i64 az] ++ J j 14 221), ([jb 0, jb 1, ⟨1, false, .rows 4 [(.agg [.str aa, (.list 2 (k.map E_api_Node)), (.list 6 (f.map E_api_Link)), (.list 5 (ab.map E_api_Rule))])]⟩, jb 3, ⟨1, false, .rows 4 [(.agg [.nilS, .bool ai, .nilS, .nilS])]⟩, jb 5, ⟨1, false, .rows 5 [(.agg [.str ad, .int .u32 ae, .int .i64 af, .bool ac, (.list 1 (c.map E71))])]⟩, ⟨1, false, .rows 4 [(.agg [al, .bool l, .ints .i64 p, .ints .i64 q])]⟩] ++ (J jb 8 43 ++ ([ak] ++ (J jb 52 42 ++ ([aw] ++ J jb 95 140)))))⟩
def ref30_Of_l2 : Prop := ∀ al ak, Opt E_ref08_Q 51 3 al ak e → ∀ ay aw, Opt E_ref08_Q 94 3 ay aw ag → ∀ j jb vs, W C F 12 0 (ref30_Of_l2_s u az aa k f ab ai ad ae af ac c l p q e ag al ak ay aw j jb vs) (Ans C Tryz.f12 (.tuple [(.agg [(.list 3 (an.map E_ref08_Q)), .bool ap, .ints .i64 aq, .ints .i64 ar]), .int .i64 au]))
noncomputable def ref30_Of_l3_s (u : List T_string) (az bn : Int) (aa : ByteArray) (k : List T_api_Node) (f : List T_api_Link) (ab : List T_api_Rule) (ai : Bool) (ad : ByteArray) (ae af : Int) (ac : Bool) (c : List T71) (l : Bool) (p q : List Int) (e ag : List T_ref08_Q) (al : D) (ak : Blk) (ay : D) (aw : Blk) (j : Nat → D) (jb : Nat → Blk) (vs : Nat → Nat) : Cf := cfAt Tryz.f12 [1, 1, 1, 1, 1, 1, 1, 1, 1, 1, 0, 1, 0, 0, 1, 0, 0, 1, 0] ⟨([j 0, j 1, .pref 2 1 0 0, j 3, .pref 4 1 0 0, j 5, .pref 6 1 0 0, .pref 7 1 0 0, j 8, (.list 1 (u.map E_string)), ay, j 11, j 12, .int .i64 az, .int .i64 bn] ++ J j 15 220), ([jb 0, jb 1, ⟨1, false, .rows 4 [(.agg [.str aa, (.list 2 (k.map E_api_Node)), (.list 6 (f.map E_api_Link)), (.list 5 (ab.map E_api_Rule))])]⟩, jb 3, ⟨1, false, .rows 4 [(.agg [.nilS, .bool ai, .nilS, .nilS])]⟩, jb 5, ⟨1, false, .rows 5 [(.agg [.str ad, .int .u32 ae, .int .i64 af, .bool ac, (.list 1 (c.map E71))])]⟩, ⟨1, false, .rows 4 [(.agg [al, .bool l, .ints .i64 p, .ints .i64 q])]⟩] ++ (J jb 8 43 ++ ([ak] ++ (J jb 52 42 ++ ([aw] ++ J jb 95 140)))))⟩
def ref30_Of_l3 : Prop := ∀ al ak, Opt E_ref08_Q 51 3 al ak e → ∀ ay aw, Opt E_ref08_Q 94 3 ay aw ag → ∀ j jb vs, W C F 12 0 (ref30_Of_l3_s u az bn aa k f ab ai ad ae af ac c l p q e ag al ak ay aw j jb vs) (Ans C Tryz.f12 (.tuple [(.agg [(.list 3 (an.map E_ref08_Q)), .bool ap, .ints .i64 aq, .ints .i64 ar]), .int .i64 au]))
noncomputable def ref30_Of_l4_s (u : List T_string) (am : Int) (aa : ByteArray) (k : List T_api_Node) (f : List T_api_Link) (ab : List T_api_Rule) (ai : Bool) (ad : ByteArray) (ae af : Int) (ac : Bool) (c : List T71) (l : Bool) (p q : List Int) (e ag : List T_ref08_Q) (al : D) (ak : Blk) (ay : D) (aw : Blk) (j : Nat → D) (jb : Nat → Blk) (vs : Nat → Nat) : Cf := cfAt Tryz.f12 [1, 1, 1, 1, 1, 1, 1, 1, 1, 1, 1, 0, 1, 0] ⟨([j 0, j 1, .pref 2 1 0 0, j 3, .pref 4 1 0 0, j 5, .pref 6 1 0 0, .pref 7 1 0 0, j 8, (.list 1 (u.map E_string)), ay] ++ (J j 11 4 ++ ([.int .u64 am] ++ J j 16 219))), ([jb 0, jb 1, ⟨1, false, .rows 4 [(.agg [.str aa, (.list 2 (k.map E_api_Node)), (.list 6 (f.map E_api_Link)), (.list 5 (ab.map E_api_Rule))])]⟩, jb 3, ⟨1, false, .rows 4 [(.agg [.nilS, .bool ai, .nilS, .nilS])]⟩, jb 5, ⟨1, false, .rows 5 [(.agg [.str ad, .int .u32 ae, .int .i64 af, .bool ac, (.list 1 (c.map E71))])]⟩, ⟨1, false, .rows 4 [(.agg [al, .bool l, .ints .i64 p, .ints .i64 q])]⟩] ++ (J jb 8 43 ++ ([ak] ++ (J jb 52 42 ++ ([aw] ++ J jb 95 140)))))⟩
def ref30_Of_l4 : Prop := ∀ al ak, Opt E_ref08_Q 51 3 al ak e → ∀ ay aw, OptF E_ref08_Q 94 3 ay aw ag → ∀ j jb vs, W C F 12 0 (ref30_Of_l4_s u am aa k f ab ai ad ae af ac c l p q e ag al ak ay aw j jb vs) (Ans C Tryz.f12 (.tuple [(.agg [(.list 3 (an.map E_ref08_Q)), .bool ap, .ints .i64 aq, .ints .i64 ar]), .int .i64 au]))
noncomputable def ref30_Of_l5_s (u : List T_string) (am av bi : Int) (aa : ByteArray) (k : List T_api_Node) (f : List T_api_Link) (ab : List T_api_Rule) (ai : Bool) (ad : ByteArray) (ae af : Int) (ac : Bool) (c : List T71) (l : Bool) (p q : List Int) (a7 : Bool) (a8 a9 : List Int) (a0 : Bool) (a2 a3 : List Int) (e ag : List T_ref08_Q) (al : D) (ak : Blk) (ay : D) (aw : Blk) (j : Nat → D) (jb : Nat → Blk) (vs : Nat → Nat) : Cf := cfAt Tryz.f12 [1, 1, 1, 1, 1, 1, 1, 1, 1, 1, 1, 0, 1, 0, 0, 1, 0, 0, 1, 1, 1, 1, 0, 1, 0] ⟨([j 0, j 1, .pref 2 1 0 0, j 3, .pref 4 1 0 0, j 5, .pref 6 1 0 0, .pref 7 1 0 0, j 8, (.list 1 (u.map E_string)), ay] ++ (J j 11 4 ++ ([.int .u64 am, (.pref 16 ((vs 16) + 1) 0 0), .int .i64 av, (.pref 18 ((vs 18) + 1) 0 0), .int .i64 bi] ++ J j 20 215))), ([jb 0, jb 1, ⟨1, false, .rows 4 [(.agg [.str aa, (.list 2 (k.map E_api_Node)), (.list 6 (f.map E_api_Link)), (.list 5 (ab.map E_api_Rule))])]⟩, jb 3, ⟨1, false, .rows 4 [(.agg [.nilS, .bool ai, .nilS, .nilS])]⟩, jb 5, ⟨1, false, .rows 5 [(.agg [.str ad, .int .u32 ae, .int .i64 af, .bool ac, (.list 1 (c.map E71))])]⟩, ⟨1, false, .rows 4 [(.agg [al, .bool l, .ints .i64 p, .ints .i64 q])]⟩] ++ (J jb 8 8 ++ ([⟨((vs 16) + 1), false, .rows 3 [(.agg [.bool a7, .ints .i64 a8, .ints .i64 a9])]⟩, jb 17, ⟨((vs 18) + 1), false, .rows 3 [(.agg [.bool a0, .ints .i64 a2, .ints .i64 a3])]⟩] ++ (J jb 19 32 ++ ([ak] ++ (J jb 52 42 ++ ([aw] ++ J jb 95 140)))))))⟩
def ref30_Of_l5 : Prop := ∀ al ak, Opt E_ref08_Q 51 3 al ak e → ∀ ay aw, OptF E_ref08_Q 94 3 ay aw ag → ∀ j jb vs, W C F 12 0 (ref30_Of_l5_s u am av bi aa k f ab ai ad ae af ac c l p q a7 a8 a9 a0 a2 a3 e ag al ak ay aw j jb vs) (Ans C Tryz.f12 (.tuple [(.agg [(.list 3 (an.map E_ref08_Q)), .bool ap, .ints .i64 aq, .ints .i64 ar]), .int .i64 au]))
noncomputable def ref30_Of_l6_s (u : List T_string) (am av bl : Int) (aa : ByteArray) (k : List T_api_Node) (f : List T_api_Link) (ab : List T_api_Rule) (ai : Bool) (ad : ByteArray) (ae af : Int) (ac : Bool) (c : List T71) (l : Bool) (p q : List Int) (a7 : Bool) (a8 a9 : List Int) (a0 : Bool) (a2 a3 : List Int) (e ag : List T_ref08_Q) (al : D) (ak : Blk) (ay : D) (aw : Blk) (j : Nat → D) (jb : Nat → Blk) (vs : Nat → Nat) : Cf := cfAt Tryz.f12 [1, 1, 1, 1, 1, 1, 1, 1, 1, 1, 1, 0, 1, 0, 0, 1, 0, 0, 1, 1, 1, 1, 1, 1, 0] ⟨([j 0, j 1, .pref 2 1 0 0, j 3, .pref 4 1 0 0, j 5, .pref 6 1 0 0, .pref 7 1 0 0, j 8, (.list 1 (u.map E_string)), ay] ++ (J j 11 4 ++ ([.int .u64 am, (.pref 16 ((vs 16) + 1) 0 0), .int .i64 av, (.pref 18 ((vs 18) + 1) 0 0), j 19, .int .i64 bl] ++ J j 21 214))), ([jb 0, jb 1, ⟨1, false, .rows 4 [(.agg [.str aa, (.list 2 (k.map E_api_Node)), (.list 6 (f.map E_api_Link)), (.list 5 (ab.map E_api_Rule))])]⟩, jb 3, ⟨1, false, .rows 4 [(.agg [.nilS, .bool ai, .nilS, .nilS])]⟩, jb 5, ⟨1, false, .rows 5 [(.agg [.str ad, .int .u32 ae, .int .i64 af, .bool ac, (.list 1 (c.map E71))])]⟩, ⟨1, false, .rows 4 [(.agg [al, .bool l, .ints .i64 p, .ints .i64 q])]⟩] ++ (J jb 8 8 ++ ([⟨((vs 16) + 1), false, .rows 3 [(.agg [.bool a7, .ints .i64 a8, .ints .i64 a9])]⟩, jb 17, ⟨((vs 18) + 1), false, .rows 3 [(.agg [.bool a0, .ints .i64 a2, .ints .i64 a3])]⟩] ++ (J jb 19 32 ++ ([ak] ++ (J jb 52 42 ++ ([aw] ++ J jb 95 140)))))))⟩
def ref30_Of_l6 : Prop := ∀ al ak, Opt E_ref08_Q 51 3 al ak e → ∀ ay aw, OptF E_ref08_Q 94 3 ay aw ag → ∀ j jb vs, W C F 12 0 (ref30_Of_l6_s u am av bl aa k f ab ai ad ae af ac c l p q a7 a8 a9 a0 a2 a3 e ag al ak ay aw j jb vs) (Ans C Tryz.f12 (.tuple [(.agg [(.list 3 (an.map E_ref08_Q)), .bool ap, .ints .i64 aq, .ints .i64 ar]), .int .i64 au]))
variable {bs u bg az bn am av bi bl aa k f ab ai ad ae af ac c l p q a7 a8 a9 a0 a2 a3 e ag al ak ay aw d6 d7 d8 bq ba an ap aq ar au}
theorem ref30_Of_l0_go (H : (bs < (k.length : Int) ∧ ∃ b3 b4 b5, ref08_Num_R 0 1 b3 b4 b5 ∧ (e.length + 1 + 192) * (56 + 1) ≤ 70368744177664 ∧ ∃ b1, b1 = e ++ [(b3, b4, b5)] ∧ ref30_Of_l0 (wi (bs + 1)) aa k f ab ai ad ae af ac c l p q b1 an ap aq ar au) ∨ ¬ bs < (k.length : Int) ∧ (ac = true ∧ an = e ∧ ap = l ∧ aq = p ∧ ar = q ∧ au = 0 ∨ ¬ ac = true ∧ ∃ dl, ref24_Out_R ad ae af ac c dl ∧ ref30_Of_l1 dl 0 aa k f ab ai ad ae af ac c l p q e ([] : List T_ref08_Q) an ap aq ar au)) : ref30_Of_l0 bs aa k f ab ai ad ae af ac c l p q e an ap aq ar au := by
 intro al ak a5 j jb vs
 refine W.adv 1 (W.adv 6 ?_)
 refine W.opS (O.ln k E_api_Node) ?_
 refine W.adv 3 ?_
 rcases H with ⟨d9, H⟩ | ⟨d9, H⟩
 ·refine W.ct (bs < (k.length : Int)) d9 ?_
  refine W.adv 7 ?_
  obtain ⟨b3, b4, b5, f1, H⟩ := H
  refine W.cl 22 [.int .i64 0, .int .i64 1] (.agg [.bool b3, .ints .i64 b4, .ints .i64 b5]) f1 ?_
  refine W.adv 1 ?_
  rcases a5 with ⟨rfl, ce⟩ | ⟨a6, rfl, rfl⟩
  ·subst ce
   obtain ⟨ea, H⟩ := H
   obtain ⟨b1, dm, H⟩ := H
   have ec : 1 = b1.length := by rw [dm] <;> rfl
   refine W.opH (O.apENil E_ref08_Q (.lit (.list 3 [(.agg [.bool b3, .ints .i64 b4, .ints .i64 b5])])) 56 51 ak.ver 3 [(b3, b4, b5)] (dm.trans (List.nil_append _)) (by first | (simp; done) | (simp at ea ⊢; omega) | omega)) ?_
   exact W.adv 11 (W.tl (P := ref30_Of_l0_s (wi (bs + 1)) aa k f ab ai ad ae af ac c l p q b1 (.sref 51 (ak.ver + 1) 3 0 1) (⟨(ak.ver + 1), false, .rows 3 (b1.map E_ref08_Q)⟩)) (H _ _ (Opt.row (w := ak.ver) (by first | rfl | omega) ec)))
  ·obtain ⟨ea, H⟩ := H
   obtain ⟨b1, dm, H⟩ := H
   have ec : (e.length + 1) = b1.length := by rw [dm, List.length_append] <;> rfl
   refine W.opK (O.apERow E_ref08_Q (.lit (.list 3 [(.agg [.bool b3, .ints .i64 b4, .ints .i64 b5])])) 56 51 (a6 + 1) 51 (a6 + 1) e.length 3 e [(b3, b4, b5)] dm rfl ea) ?_
   exact W.adv 11 (W.tl (P := ref30_Of_l0_s (wi (bs + 1)) aa k f ab ai ad ae af ac c l p q b1 (.sref 51 ((a6 + 1) + 1) 3 0 (e.length + 1)) (⟨((a6 + 1) + 1), false, .rows 3 (b1.map E_ref08_Q)⟩)) (H _ _ (Opt.row (w := (a6 + 1)) (by first | rfl | omega) ec)))
 ·refine W.cf (bs < (k.length : Int)) d9 ?_
  refine W.adv 12 ?_
  rcases H with ⟨ed, H⟩ | ⟨ed, H⟩
  ·refine W.cb true ac ed ?_
   refine W.adv 9 ?_
   rcases a5 with ⟨rfl, ce⟩ | ⟨a6, rfl, rfl⟩
   ·subst ce
    exact W.fr (Ans.q (.tuple [(.agg [(.list 3 (([] : List T_ref08_Q).map E_ref08_Q)), .bool l, .ints .i64 p, .ints .i64 q]), .int .i64 0]) (by rw [H.1, H.2.1, H.2.2.1, H.2.2.2.1, H.2.2.2.2]))
   ·exact W.fr (Ans.of (d := (.tuple [(.agg [(.sref 51 (a6 + 1) 3 0 e.length), .bool l, .ints .i64 p, .ints .i64 q]), .int .i64 0])) (d' := (.tuple [(.agg [(.list 3 (e.map E_ref08_Q)), .bool l, .ints .i64 p, .ints .i64 q]), .int .i64 0])) (e' := (.tuple [(.agg [(.list 3 (e.map E_ref08_Q)), .bool l, .ints .i64 p, .ints .i64 q]), .int .i64 0])) (by kernel_rfl) ((congrArg (fun h => reify h DEPTH (.tuple [(.agg [(.sref 51 (a6 + 1) 3 0 e.length), .bool l, .ints .i64 p, .ints .i64 q]), .int .i64 0])) (tidy_ver (b := 51) (v := a6) (fz := false) (y := .rows 3 (e.map E_ref08_Q)) (by kernel_rfl))).trans (rf_tup (rf_cons (rf_agg (rf_cons (rf_fullE (enc := E_ref08_Q) E_ref08_Q_t (b := 51) (v := (a6 + 1)) (w := (a6 + 1)) (fz := false) (xs := e) (by kernel_rfl) rfl rfl) (rf_cons (by kernel_rfl) (rf_cons (by kernel_rfl) (rf_cons (by kernel_rfl) rf_nil))))) (rf_cons (by kernel_rfl) rf_nil)))) (by kernel_rfl) (by rw [H.1, H.2.1, H.2.2.1, H.2.2.2.1, H.2.2.2.2]))
  ·refine W.cb false ac (bfalse ed) ?_
   refine W.adv 5 ?_
   obtain ⟨dl, f2, H⟩ := H
   refine W.cl 17 [(.agg [.str ad, .int .u32 ae, .int .i64 af, .bool ac, (.list 1 (c.map E71))])] (.list 1 (dl.map E_string)) f2 ?_
   exact W.adv 16 (W.tl (P := ref30_Of_l1_s dl 0 aa k f ab ai ad ae af ac c l p q e ([] : List T_ref08_Q) al ak .nilS (jb 94)) (H _ _ a5 _ _ Opt.nil))
theorem ref30_Of_l1_go (H : (bg < (u.length : Int) ∧ 0 ≤ bg ∧ ∃ a4, ref23_Link_R aa k f ab (u.getD (bg).toNat ByteArray.empty) a4 ∧ (a4 < 0 ∧ an = ([] : List T_ref08_Q) ∧ ap = false ∧ aq = [] ∧ ar = [] ∧ au = 9 ∨ ¬ a4 < 0 ∧ 0 ≤ a4 ∧ a4 < (f.length : Int) ∧ ∃ ee ef cv eg ei ek, f.getD (a4).toNat (ByteArray.empty, ByteArray.empty, ByteArray.empty, false, [], []) = (ee, ef, cv, eg, ei, ek) ∧ ∃ b6, ref23_Node_R aa k f ab cv b6 ∧ (b6 < 0 ∧ an = ([] : List T_ref08_Q) ∧ ap = false ∧ aq = [] ∧ ar = [] ∧ au = 9 ∨ ¬ b6 < 0 ∧ ∃ el em en cw cy cz, f.getD (a4).toNat (ByteArray.empty, ByteArray.empty, ByteArray.empty, false, [], []) = (el, em, en, cw, cy, cz) ∧ ∃ b7 b8 b9, ref08_Of_R cw cy cz b7 b8 b9 ∧ (ag.length + 1 + 192) * (56 + 1) ≤ 70368744177664 ∧ ∃ b2, b2 = ag ++ [(b7, b8, b9)] ∧ ref30_Of_l1 u (wi (bg + 1)) aa k f ab ai ad ae af ac c l p q e b2 an ap aq ar au))) ∨ ¬ bg < (u.length : Int) ∧ ∃ b0, ref29_Right_R ag b0 ∧ (b0 = true ∧ ref30_Of_l2 u 0 aa k f ab ai ad ae af ac c l p q e ag an ap aq ar au ∨ ¬ b0 = true ∧ an = ([] : List T_ref08_Q) ∧ ap = false ∧ aq = [] ∧ ar = [] ∧ au = 2)) : ref30_Of_l1 u bg aa k f ab ai ad ae af ac c l p q e ag an ap aq ar au := by
 intro al ak a5 ay aw bk j jb vs
 refine W.adv 1 (W.adv 5 ?_)
 refine W.opS (O.ln u E_string) ?_
 refine W.adv 3 ?_
 rcases H with ⟨d3, H⟩ | ⟨d3, H⟩
 ·refine W.ct (bg < (u.length : Int)) d3 ?_
  refine W.adv 9 ?_
  obtain ⟨f3, H⟩ := H
  refine W.opS (O.ixE E_string 1 .i64 u bg ByteArray.empty (u.getD (bg).toNat ByteArray.empty) f3 d3 rfl) ?_
  refine W.adv 1 ?_
  obtain ⟨a4, f4, H⟩ := H
  refine W.cl 46 [(.agg [.str aa, (.list 2 (k.map E_api_Node)), (.list 6 (f.map E_api_Link)), (.list 5 (ab.map E_api_Rule))]), (.str (u.getD (bg).toNat ByteArray.empty))] (.int .i64 a4) f4 ?_
  refine W.adv 9 ?_
  rcases H with ⟨bc, H⟩ | ⟨bc, H⟩
  ·refine W.gt' (a4 < 0) bc ?_
   refine W.gt' (a4 < 0) bc ?_
   refine W.gt' (a4 < 0) bc ?_
   refine W.gt' (a4 < 0) bc ?_
   refine W.gt' (a4 < 0) bc ?_
   refine W.gt' (a4 < 0) bc ?_
   refine W.gt' (a4 < 0) bc ?_
   refine W.gt' (a4 < 0) bc ?_
   refine W.gt' (a4 < 0) bc ?_
   refine W.opS (O.pk (decide (a4 < 0)) true (.bool true) (.tuple []) (decide_eq_true bc)) ?_
   exact W.adv 17 (W.fr (Ans.q (.tuple [(.agg [(.list 3 (([] : List T_ref08_Q).map E_ref08_Q)), .bool false, .ints .i64 [], .ints .i64 []]), .int .i64 9]) (by rw [H.1, H.2.1, H.2.2.1, H.2.2.2.1, H.2.2.2.2])))
  ·refine W.gf' (a4 < 0) bc ?_
   refine W.adv 1 (W.gf' (a4 < 0) bc ?_)
   refine W.adv 1 (W.gf' (a4 < 0) bc ?_)
   refine W.adv 1 (W.gf' (a4 < 0) bc ?_)
   refine W.adv 1 (W.gf' (a4 < 0) bc ?_)
   obtain ⟨fp, fq, H⟩ := H
   obtain ⟨ee, ef, cv, eg, ei, ek, f5, H⟩ := H
   refine W.opS (O.ixE E_api_Link 6 .i64 f a4 (ByteArray.empty, ByteArray.empty, ByteArray.empty, false, [], []) (ee, ef, cv, eg, ei, ek) fp fq f5) ?_
   refine W.gf' (a4 < 0) bc ?_
   refine W.adv 1 (W.gf' (a4 < 0) bc ?_)
   refine W.adv 1 (W.gf' (a4 < 0) bc ?_)
   obtain ⟨b6, f6, H⟩ := H
   refine W.cl 47 [(.agg [.str aa, (.list 2 (k.map E_api_Node)), (.list 6 (f.map E_api_Link)), (.list 5 (ab.map E_api_Rule))]), .str cv] (.int .i64 b6) f6 ?_
   refine W.gf' (a4 < 0) bc ?_
   refine W.adv 1 (W.opS (O.pk (decide (a4 < 0)) false (.bool true) (.bool (decide (b6 < 0))) (decide_eq_false bc)) ?_)
   refine W.adv 2 ?_
   rcases H with ⟨ep, H⟩ | ⟨ep, H⟩
   ·refine W.ct (b6 < 0) ep ?_
    exact W.adv 14 (W.fr (Ans.q (.tuple [(.agg [(.list 3 (([] : List T_ref08_Q).map E_ref08_Q)), .bool false, .ints .i64 [], .ints .i64 []]), .int .i64 9]) (by rw [H.1, H.2.1, H.2.2.1, H.2.2.2.1, H.2.2.2.2])))
   ·refine W.cf (b6 < 0) ep ?_
    refine W.adv 7 ?_
    obtain ⟨el, em, en, cw, cy, cz, f7, H⟩ := H
    refine W.opS (O.ixE E_api_Link 6 .i64 f a4 (ByteArray.empty, ByteArray.empty, ByteArray.empty, false, [], []) (el, em, en, cw, cy, cz) fp fq f7) ?_
    refine W.adv 2 ?_
    obtain ⟨b7, b8, b9, f8, H⟩ := H
    refine W.cl 48 [(.agg [.bool cw, .ints .u64 cy, .ints .u64 cz])] (.agg [.bool b7, .ints .i64 b8, .ints .i64 b9]) f8 ?_
    refine W.adv 1 ?_
    rcases bk with ⟨rfl, dn⟩ | ⟨bb, rfl, rfl⟩
    ·subst dn
     obtain ⟨eq, H⟩ := H
     obtain ⟨b2, dp, H⟩ := H
     have er : 1 = b2.length := by rw [dp] <;> rfl
     refine W.opH (O.apENil E_ref08_Q (.lit (.list 3 [(.agg [.bool b7, .ints .i64 b8, .ints .i64 b9])])) 56 94 aw.ver 3 [(b7, b8, b9)] (dp.trans (List.nil_append _)) (by first | (simp; done) | (simp at eq ⊢; omega) | omega)) ?_
     exact W.adv 10 (W.tl (P := ref30_Of_l1_s u (wi (bg + 1)) aa k f ab ai ad ae af ac c l p q e b2 al ak (.sref 94 (aw.ver + 1) 3 0 1) (⟨(aw.ver + 1), false, .rows 3 (b2.map E_ref08_Q)⟩)) (H _ _ a5 _ _ (Opt.row (w := aw.ver) (by first | rfl | omega) er)))
    ·obtain ⟨eq, H⟩ := H
     obtain ⟨b2, dp, H⟩ := H
     have er : (ag.length + 1) = b2.length := by rw [dp, List.length_append] <;> rfl
     refine W.opK (O.apERow E_ref08_Q (.lit (.list 3 [(.agg [.bool b7, .ints .i64 b8, .ints .i64 b9])])) 56 94 (bb + 1) 94 (bb + 1) ag.length 3 ag [(b7, b8, b9)] dp rfl eq) ?_
     exact W.adv 10 (W.tl (P := ref30_Of_l1_s u (wi (bg + 1)) aa k f ab ai ad ae af ac c l p q e b2 al ak (.sref 94 ((bb + 1) + 1) 3 0 (ag.length + 1)) (⟨((bb + 1) + 1), false, .rows 3 (b2.map E_ref08_Q)⟩)) (H _ _ a5 _ _ (Opt.row (w := (bb + 1)) (by first | rfl | omega) er)))
 ·refine W.cf (bg < (u.length : Int)) d3 ?_
  refine W.adv 9 ?_
  rcases bk with ⟨rfl, dn⟩ | ⟨bb, rfl, rfl⟩
  ·subst dn
   obtain ⟨b0, et, H⟩ := H
   refine W.cl 49 [.nilS] (.bool b0) et ?_
   refine W.adv 3 ?_
   rcases H with ⟨cf, H⟩ | ⟨cf, H⟩
   ·refine W.cb false (!b0) (congrArg (fun b => !b) cf) ?_
    exact W.adv 9 (W.tl (P := ref30_Of_l2_s u 0 aa k f ab ai ad ae af ac c l p q e ([] : List T_ref08_Q) al ak .nilS aw) (H _ _ a5 _ _ Opt.nil))
   ·refine W.cb true (!b0) (congrArg (fun b => !b) (bfalse cf)) ?_
    exact W.adv 9 (W.fr (Ans.q (.tuple [(.agg [(.list 3 (([] : List T_ref08_Q).map E_ref08_Q)), .bool false, .ints .i64 [], .ints .i64 []]), .int .i64 2]) (by rw [H.1, H.2.1, H.2.2.1, H.2.2.2.1, H.2.2.2.2])))
  ·obtain ⟨b0, et, H⟩ := H
   refine W.callR (g := 49) (ds := [(.sref 94 (bb + 1) 3 0 ag.length)]) (es := [(.list 3 (ag.map E_ref08_Q))]) (r := (.bool b0)) (by kernel_rfl) (rf_cons (rf_fullE (enc := E_ref08_Q) E_ref08_Q_t (b := 94) (v := (bb + 1)) (w := (bb + 1)) (fz := false) (xs := ag) (by kernel_rfl) rfl rfl) rf_nil) (Ic.args et (by kernel_rfl)) (by kernel_rfl) ?_
   refine W.adv 3 ?_
   rcases H with ⟨cf, H⟩ | ⟨cf, H⟩
   ·refine W.cb false (!b0) (congrArg (fun b => !b) cf) ?_
    exact W.adv 9 (W.tl (P := ref30_Of_l2_s u 0 aa k f ab ai ad ae af ac c l p q e ag al ak (.sref 94 (bb + 1) 3 0 ag.length) (⟨(bb + 1), false, .rows 3 (ag.map E_ref08_Q)⟩)) (H _ _ a5 _ _ (Opt.row (w := bb) (by first | rfl | omega) rfl)))
   ·refine W.cb true (!b0) (congrArg (fun b => !b) (bfalse cf)) ?_
    exact W.adv 9 (W.fr (Ans.q (.tuple [(.agg [(.list 3 (([] : List T_ref08_Q).map E_ref08_Q)), .bool false, .ints .i64 [], .ints .i64 []]), .int .i64 2]) (by rw [H.1, H.2.1, H.2.2.1, H.2.2.2.1, H.2.2.2.2])))
theorem ref30_Of_l2_go (H : az < (c.length : Int) ∧ ref30_Of_l3 u az 0 aa k f ab ai ad ae af ac c l p q e ag an ap aq ar au ∨ ¬ az < (c.length : Int) ∧ ref30_Of_l4 u 0 aa k f ab ai ad ae af ac c l p q e ag an ap aq ar au) : ref30_Of_l2 u az aa k f ab ai ad ae af ac c l p q e ag an ap aq ar au := by
 intro al ak a5 ay aw bk j jb vs
 refine W.adv 1 (W.adv 6 ?_)
 refine W.opS (O.ln c E71) ?_
 refine W.adv 3 ?_
 rcases H with ⟨eu, H⟩ | ⟨eu, H⟩
 ·refine W.ct (az < (c.length : Int)) eu ?_
  exact W.adv 10 (W.tl (H _ _ a5 _ _ bk))
 ·refine W.cf (az < (c.length : Int)) eu ?_
  exact W.adv 12 (W.tl (P := ref30_Of_l4_s u 0 aa k f ab ai ad ae af ac c l p q e ag al ak ay aw) (H _ _ a5 _ _ (Opt.toF bk)))
theorem ref30_Of_l3_go (H : 0 ≤ az ∧ az < (c.length : Int) ∧ ((bn < ((c.getD (az).toNat []).length : Int) ∧ 0 ≤ bn ∧ ∃ ev cg, (c.getD (az).toNat []).getD (bn).toNat (ByteArray.empty, 0) = (ev, cg) ∧ (cg < 1 ∧ an = ([] : List T_ref08_Q) ∧ ap = false ∧ aq = [] ∧ ar = [] ∧ au = 2 ∨ ¬ cg < 1 ∧ ref30_Of_l3 u az (wi (bn + 1)) aa k f ab ai ad ae af ac c l p q e ag an ap aq ar au)) ∨ ¬ bn < ((c.getD (az).toNat []).length : Int) ∧ ref30_Of_l2 u (wi (az + 1)) aa k f ab ai ad ae af ac c l p q e ag an ap aq ar au)) : ref30_Of_l3 u az bn aa k f ab ai ad ae af ac c l p q e ag an ap aq ar au := by
 intro al ak a5 ay aw bk j jb vs
 refine W.adv 1 (W.adv 7 ?_)
 obtain ⟨fr, fs, H⟩ := H
 refine W.opS (O.ixE E71 1 .i64 c az [] (c.getD (az).toNat []) fr fs rfl) ?_
 refine W.adv 1 (W.opS (O.ln (c.getD (az).toNat []) E_api_Hop) ?_)
 refine W.adv 3 ?_
 rcases H with ⟨d4, H⟩ | ⟨d4, H⟩
 ·refine W.ct (bn < ((c.getD (az).toNat []).length : Int)) d4 ?_
  refine W.adv 9 (W.opS (O.ixE E71 1 .i64 c az [] (c.getD (az).toNat []) fr fs rfl) ?_)
  refine W.adv 2 ?_
  obtain ⟨f9, H⟩ := H
  obtain ⟨ev, cg, ga, H⟩ := H
  refine W.opS (O.ixE E_api_Hop 2 .i64 (c.getD (az).toNat []) bn (ByteArray.empty, 0) (ev, cg) f9 d4 ga) ?_
  refine W.adv 5 ?_
  rcases H with ⟨ew, H⟩ | ⟨ew, H⟩
  ·refine W.ct (cg < 1) ew ?_
   exact W.adv 17 (W.fr (Ans.q (.tuple [(.agg [(.list 3 (([] : List T_ref08_Q).map E_ref08_Q)), .bool false, .ints .i64 [], .ints .i64 []]), .int .i64 2]) (by rw [H.1, H.2.1, H.2.2.1, H.2.2.2.1, H.2.2.2.2])))
  ·refine W.cf (cg < 1) ew ?_
   exact W.adv 9 (W.tl (H _ _ a5 _ _ bk))
 ·refine W.cf (bn < ((c.getD (az).toNat []).length : Int)) d4 ?_
  exact W.adv 12 (W.tl (H _ _ a5 _ _ bk))
theorem ref30_Of_l4_go (H : ∃ ci, ref29_Cases_R (u.length : Int) ci ∧ ((am < ci ∧ ∃ bd be bf, ref29_Chance_R ag am bd be bf ∧ ∃ bp, ref30_Group_R ad ae af ac c u am bp ∧ ((bp < 0 ∧ ∃ ca cc cd, ref08_Add_R l p q bd be bf ca cc cd ∧ ref30_Of_l4 u (wu (am + 1)) aa k f ab ai ad ae af ac c ca cc cd e ag an ap aq ar au) ∨ ¬ bp < 0 ∧ ∃ bt bu bv, ref08_Num_R 0 1 bt bu bv ∧ ref30_Of_l5 u am bp 0 aa k f ab ai ad ae af ac c l p q bd be bf bt bu bv e ag an ap aq ar au)) ∨ ¬ am < ci ∧ an = e ∧ ap = l ∧ aq = p ∧ ar = q ∧ au = 0)) : ref30_Of_l4 u am aa k f ab ai ad ae af ac c l p q e ag an ap aq ar au := by
 intro al ak a5 ay aw bk j jb vs
 refine W.adv 1 (W.adv 5 ?_)
 refine W.opS (O.ln u E_string) ?_
 obtain ⟨ci, gb, H⟩ := H
 refine W.cl 50 [(.int .i64 (u.length : Int))] (.int .u64 ci) gb ?_
 refine W.adv 3 ?_
 rcases H with ⟨ey, H⟩ | ⟨ey, H⟩
 ·refine W.ct (am < ci) ey ?_
  refine W.adv 8 ?_
  rcases bk with ⟨rfl, dn⟩ | ⟨bb, gc, rfl, rfl⟩
  ·subst dn
   obtain ⟨bd, be, bf, ez, H⟩ := H
   refine W.cl 51 [.nilS, .int .u64 am] (.agg [.bool bd, .ints .i64 be, .ints .i64 bf]) ez ?_
   refine W.adv 1 (W.opH (O.stV 16 ((jb 16).ver + 1) 0 0 3 3 [(.agg [.bool false, .nilS, .nilS])] [(.agg [.bool bd, .ints .i64 be, .ints .i64 bf])] (.agg [.bool false, .nilS, .nilS]) (.agg [.bool bd, .ints .i64 be, .ints .i64 bf])) ?_)
   refine W.adv 7 ?_
   obtain ⟨bp, e0, H⟩ := H
   refine W.cl 18 [(.agg [.str ad, .int .u32 ae, .int .i64 af, .bool ac, (.list 1 (c.map E71))]), (.list 1 (u.map E_string)), .int .u64 am] (.int .i64 bp) e0 ?_
   refine W.adv 10 ?_
   rcases H with ⟨ck, H⟩ | ⟨ck, H⟩
   ·refine W.ct (bp < 0) ck ?_
    refine W.adv 4 (W.opS (O.ldV 16 ((jb 16).ver + 1) 0 0 3 3 false true [(.agg [.bool bd, .ints .i64 be, .ints .i64 bf])] (.agg [.bool bd, .ints .i64 be, .ints .i64 bf])) ?_)
    obtain ⟨ca, cc, cd, e1, H⟩ := H
    refine W.cl 23 [(.agg [.bool l, .ints .i64 p, .ints .i64 q]), (.agg [.bool bd, .ints .i64 be, .ints .i64 bf])] (.agg [.bool ca, .ints .i64 cc, .ints .i64 cd]) e1 ?_
    exact W.adv 14 (W.tl (P := ref30_Of_l4_s u (wu (am + 1)) aa k f ab ai ad ae af ac c ca cc cd e ([] : List T_ref08_Q) al ak .nilS aw) (H _ _ a5 _ _ OptF.nil))
   ·refine W.cf (bp < 0) ck ?_
    refine W.adv 4 ?_
    obtain ⟨bt, bu, bv, e2, H⟩ := H
    refine W.cl 22 [.int .i64 0, .int .i64 1] (.agg [.bool bt, .ints .i64 bu, .ints .i64 bv]) e2 ?_
    refine W.adv 1 (W.opH (O.stV 18 ((jb 18).ver + 1) 0 0 3 3 [(.agg [.bool false, .nilS, .nilS])] [(.agg [.bool bt, .ints .i64 bu, .ints .i64 bv])] (.agg [.bool false, .nilS, .nilS]) (.agg [.bool bt, .ints .i64 bu, .ints .i64 bv])) ?_)
    exact W.adv 9 (W.tl (P := ref30_Of_l5_s u am bp 0 aa k f ab ai ad ae af ac c l p q bd be bf bt bu bv e ([] : List T_ref08_Q) al ak .nilS aw) (H _ _ a5 _ _ OptF.nil))
  ·obtain ⟨bd, be, bf, ez, H⟩ := H
   refine W.callR (g := 51) (ds := [(.sref 94 (bb + 1) 3 0 ag.length), .int .u64 am]) (es := [(.list 3 (ag.map E_ref08_Q)), .int .u64 am]) (r := (.agg [.bool bd, .ints .i64 be, .ints .i64 bf])) (by kernel_rfl) (rf_cons (rf_fullE (enc := E_ref08_Q) E_ref08_Q_t (b := 94) (v := (bb + 1)) (w := (bb + 1)) (fz := gc) (xs := ag) (by kernel_rfl) rfl rfl) (rf_cons (by kernel_rfl) rf_nil)) (Ic.args ez (by kernel_rfl)) (by kernel_rfl) ?_
   refine W.adv 1 (W.opH (O.stV 16 ((jb 16).ver + 1) 0 0 3 3 [(.agg [.bool false, .nilS, .nilS])] [(.agg [.bool bd, .ints .i64 be, .ints .i64 bf])] (.agg [.bool false, .nilS, .nilS]) (.agg [.bool bd, .ints .i64 be, .ints .i64 bf])) ?_)
   refine W.adv 7 ?_
   obtain ⟨bp, e0, H⟩ := H
   refine W.cl 18 [(.agg [.str ad, .int .u32 ae, .int .i64 af, .bool ac, (.list 1 (c.map E71))]), (.list 1 (u.map E_string)), .int .u64 am] (.int .i64 bp) e0 ?_
   refine W.adv 10 ?_
   rcases H with ⟨ck, H⟩ | ⟨ck, H⟩
   ·refine W.ct (bp < 0) ck ?_
    refine W.adv 4 (W.opS (O.ldV 16 ((jb 16).ver + 1) 0 0 3 3 false true [(.agg [.bool bd, .ints .i64 be, .ints .i64 bf])] (.agg [.bool bd, .ints .i64 be, .ints .i64 bf])) ?_)
    obtain ⟨ca, cc, cd, e1, H⟩ := H
    refine W.cl 23 [(.agg [.bool l, .ints .i64 p, .ints .i64 q]), (.agg [.bool bd, .ints .i64 be, .ints .i64 bf])] (.agg [.bool ca, .ints .i64 cc, .ints .i64 cd]) e1 ?_
    exact W.adv 14 (W.tl (P := ref30_Of_l4_s u (wu (am + 1)) aa k f ab ai ad ae af ac c ca cc cd e ag al ak (.sref 94 (bb + 1) 3 0 ag.length) (⟨(bb + 1), true, .rows 3 (ag.map E_ref08_Q)⟩)) (H _ _ a5 _ _ (OptF.row (w := bb) (by first | rfl | omega) rfl)))
   ·refine W.cf (bp < 0) ck ?_
    refine W.adv 4 ?_
    obtain ⟨bt, bu, bv, e2, H⟩ := H
    refine W.cl 22 [.int .i64 0, .int .i64 1] (.agg [.bool bt, .ints .i64 bu, .ints .i64 bv]) e2 ?_
    refine W.adv 1 (W.opH (O.stV 18 ((jb 18).ver + 1) 0 0 3 3 [(.agg [.bool false, .nilS, .nilS])] [(.agg [.bool bt, .ints .i64 bu, .ints .i64 bv])] (.agg [.bool false, .nilS, .nilS]) (.agg [.bool bt, .ints .i64 bu, .ints .i64 bv])) ?_)
    exact W.adv 9 (W.tl (P := ref30_Of_l5_s u am bp 0 aa k f ab ai ad ae af ac c l p q bd be bf bt bu bv e ag al ak (.sref 94 (bb + 1) 3 0 ag.length) (⟨(bb + 1), true, .rows 3 (ag.map E_ref08_Q)⟩)) (H _ _ a5 _ _ (OptF.row (w := bb) (by first | rfl | omega) rfl)))
 ·refine W.cf (am < ci) ey ?_
  refine W.adv 13 ?_
  rcases a5 with ⟨rfl, ce⟩ | ⟨a6, rfl, rfl⟩
  ·subst ce
   exact W.fr (Ans.q (.tuple [(.agg [(.list 3 (([] : List T_ref08_Q).map E_ref08_Q)), .bool l, .ints .i64 p, .ints .i64 q]), .int .i64 0]) (by rw [H.1, H.2.1, H.2.2.1, H.2.2.2.1, H.2.2.2.2]))
  ·exact W.fr (Ans.of (d := (.tuple [(.agg [(.sref 51 (a6 + 1) 3 0 e.length), .bool l, .ints .i64 p, .ints .i64 q]), .int .i64 0])) (d' := (.tuple [(.agg [(.list 3 (e.map E_ref08_Q)), .bool l, .ints .i64 p, .ints .i64 q]), .int .i64 0])) (e' := (.tuple [(.agg [(.list 3 (e.map E_ref08_Q)), .bool l, .ints .i64 p, .ints .i64 q]), .int .i64 0])) (by kernel_rfl) ((congrArg (fun h => reify h DEPTH (.tuple [(.agg [(.sref 51 (a6 + 1) 3 0 e.length), .bool l, .ints .i64 p, .ints .i64 q]), .int .i64 0])) (tidy_ver (b := 51) (v := a6) (fz := false) (y := .rows 3 (e.map E_ref08_Q)) (by kernel_rfl))).trans (rf_tup (rf_cons (rf_agg (rf_cons (rf_fullE (enc := E_ref08_Q) E_ref08_Q_t (b := 51) (v := (a6 + 1)) (w := (a6 + 1)) (fz := false) (xs := e) (by kernel_rfl) rfl rfl) (rf_cons (by kernel_rfl) (rf_cons (by kernel_rfl) (rf_cons (by kernel_rfl) rf_nil))))) (rf_cons (by kernel_rfl) rf_nil)))) (by kernel_rfl) (by rw [H.1, H.2.1, H.2.2.1, H.2.2.2.1, H.2.2.2.2]))
theorem ref30_Of_l5_go (H : 0 ≤ av ∧ av < (c.length : Int) ∧ ((bi < ((c.getD (av).toNat []).length : Int) ∧ 0 ≤ bi ∧ ∃ c0 e3, (c.getD (av).toNat []).getD (bi).toNat (ByteArray.empty, 0) = (c0, e3) ∧ ∃ cl, ref30_Lives_R u c0 am cl ∧ ((cl = true ∧ ∃ e4 c1, (c.getD (av).toNat []).getD (bi).toNat (ByteArray.empty, 0) = (e4, c1) ∧ ∃ c2 c3 c4, ref08_Num_R c1 1 c2 c3 c4 ∧ ∃ cm cn cp, ref08_Add_R a0 a2 a3 c2 c3 c4 cm cn cp ∧ ref30_Of_l5 u am av (wi (bi + 1)) aa k f ab ai ad ae af ac c l p q a7 a8 a9 cm cn cp e ag an ap aq ar au) ∨ ¬ cl = true ∧ ref30_Of_l5 u am av (wi (bi + 1)) aa k f ab ai ad ae af ac c l p q a7 a8 a9 a0 a2 a3 e ag an ap aq ar au)) ∨ ¬ bi < ((c.getD (av).toNat []).length : Int) ∧ ref30_Of_l6 u am av 0 aa k f ab ai ad ae af ac c l p q a7 a8 a9 a0 a2 a3 e ag an ap aq ar au)) : ref30_Of_l5 u am av bi aa k f ab ai ad ae af ac c l p q a7 a8 a9 a0 a2 a3 e ag an ap aq ar au := by
 intro al ak a5 ay aw bk j jb vs
 refine W.adv 1 (W.adv 7 ?_)
 obtain ⟨fa, fb, H⟩ := H
 refine W.opS (O.ixE E71 1 .i64 c av [] (c.getD (av).toNat []) fa fb rfl) ?_
 refine W.adv 1 (W.opS (O.ln (c.getD (av).toNat []) E_api_Hop) ?_)
 refine W.adv 3 ?_
 rcases H with ⟨dq, H⟩ | ⟨dq, H⟩
 ·refine W.ct (bi < ((c.getD (av).toNat []).length : Int)) dq ?_
  refine W.adv 10 (W.opS (O.ixE E71 1 .i64 c av [] (c.getD (av).toNat []) fa fb rfl) ?_)
  refine W.adv 2 ?_
  obtain ⟨ft, H⟩ := H
  obtain ⟨c0, e3, gd, H⟩ := H
  refine W.opS (O.ixE E_api_Hop 2 .i64 (c.getD (av).toNat []) bi (ByteArray.empty, 0) (c0, e3) ft dq gd) ?_
  refine W.adv 3 ?_
  obtain ⟨cl, ge, H⟩ := H
  refine W.cl 52 [(.list 1 (u.map E_string)), .str c0, .int .u64 am] (.bool cl) ge ?_
  refine W.adv 2 ?_
  rcases H with ⟨fc, H⟩ | ⟨fc, H⟩
  ·refine W.cb true cl fc ?_
   refine W.adv 1 (W.opS (O.ldV 18 ((vs 18) + 1) 0 0 3 3 false true [(.agg [.bool a0, .ints .i64 a2, .ints .i64 a3])] (.agg [.bool a0, .ints .i64 a2, .ints .i64 a3])) ?_)
   refine W.adv 3 (W.opS (O.ixE E71 1 .i64 c av [] (c.getD (av).toNat []) fa fb rfl) ?_)
   refine W.adv 2 ?_
   obtain ⟨e4, c1, gf, H⟩ := H
   refine W.opS (O.ixE E_api_Hop 2 .i64 (c.getD (av).toNat []) bi (ByteArray.empty, 0) (e4, c1) ft dq gf) ?_
   refine W.adv 2 ?_
   obtain ⟨c2, c3, c4, gg, H⟩ := H
   refine W.cl 22 [.int .i64 c1, .int .i64 1] (.agg [.bool c2, .ints .i64 c3, .ints .i64 c4]) gg ?_
   obtain ⟨cm, cn, cp, gi, H⟩ := H
   refine W.cl 23 [(.agg [.bool a0, .ints .i64 a2, .ints .i64 a3]), (.agg [.bool c2, .ints .i64 c3, .ints .i64 c4])] (.agg [.bool cm, .ints .i64 cn, .ints .i64 cp]) gi ?_
   refine W.opH (O.stV 18 ((vs 18) + 1) 0 0 3 3 [(.agg [.bool a0, .ints .i64 a2, .ints .i64 a3])] [(.agg [.bool cm, .ints .i64 cn, .ints .i64 cp])] (.agg [.bool a0, .ints .i64 a2, .ints .i64 a3]) (.agg [.bool cm, .ints .i64 cn, .ints .i64 cp])) ?_
   exact W.adv 9 (W.tl (H _ _ a5 _ _ bk))
  ·refine W.cb false cl (bfalse fc) ?_
   exact W.adv 9 (W.tl (H _ _ a5 _ _ bk))
 ·refine W.cf (bi < ((c.getD (av).toNat []).length : Int)) dq ?_
  exact W.adv 11 (W.tl (H _ _ a5 _ _ bk))
theorem ref30_Of_l6_go (H : 0 ≤ av ∧ av < (c.length : Int) ∧ ((bl < ((c.getD (av).toNat []).length : Int) ∧ 0 ≤ bl ∧ ∃ bm bw, (c.getD (av).toNat []).getD (bl).toNat (ByteArray.empty, 0) = (bm, bw) ∧ ∃ cq, ref30_Lives_R u bm am cq ∧ ((cq = true ∧ ∃ cr, ref23_Link_R aa k f ab bm cr ∧ 0 ≤ cr ∧ cr < (f.length : Int) ∧ ∃ fd fe c5 fg fi fk, f.getD (cr).toNat (ByteArray.empty, ByteArray.empty, ByteArray.empty, false, [], []) = (fd, fe, c5, fg, fi, fk) ∧ ∃ bz, ref23_Node_R aa k f ab c5 bz ∧ 0 ≤ bz ∧ bz < (e.length : Int) ∧ ∃ cs ct cu, e.getD (bz).toNat (false, [], []) = (cs, ct, cu) ∧ ∃ c6 c7 c8, ref08_Num_R bw 1 c6 c7 c8 ∧ ∃ c9 da db, ref08_Div_R c6 c7 c8 a0 a2 a3 c9 da db ∧ ∃ dc dd de, ref08_Mul_R a7 a8 a9 c9 da db dc dd de ∧ ∃ df dg di, ref08_Add_R cs ct cu dc dd de df dg di ∧ ∃ dk, dk = e.set (bz).toNat (df, dg, di) ∧ ref30_Of_l6 u am av (wi (bl + 1)) aa k f ab ai ad ae af ac c l p q a7 a8 a9 a0 a2 a3 dk ag an ap aq ar au) ∨ ¬ cq = true ∧ ref30_Of_l6 u am av (wi (bl + 1)) aa k f ab ai ad ae af ac c l p q a7 a8 a9 a0 a2 a3 e ag an ap aq ar au)) ∨ ¬ bl < ((c.getD (av).toNat []).length : Int) ∧ ref30_Of_l4 u (wu (am + 1)) aa k f ab ai ad ae af ac c l p q e ag an ap aq ar au)) : ref30_Of_l6 u am av bl aa k f ab ai ad ae af ac c l p q a7 a8 a9 a0 a2 a3 e ag an ap aq ar au := by
 intro al ak a5 ay aw bk j jb vs
 refine W.adv 1 (W.adv 7 ?_)
 obtain ⟨fu, fv, H⟩ := H
 refine W.opS (O.ixE E71 1 .i64 c av [] (c.getD (av).toNat []) fu fv rfl) ?_
 refine W.adv 1 (W.opS (O.ln (c.getD (av).toNat []) E_api_Hop) ?_)
 refine W.adv 3 ?_
 rcases H with ⟨d5, H⟩ | ⟨d5, H⟩
 ·refine W.ct (bl < ((c.getD (av).toNat []).length : Int)) d5 ?_
  refine W.adv 9 (W.opS (O.ixE E71 1 .i64 c av [] (c.getD (av).toNat []) fu fv rfl) ?_)
  refine W.adv 2 ?_
  obtain ⟨gk, H⟩ := H
  obtain ⟨bm, bw, gl, H⟩ := H
  refine W.opS (O.ixE E_api_Hop 2 .i64 (c.getD (av).toNat []) bl (ByteArray.empty, 0) (bm, bw) gk d5 gl) ?_
  refine W.adv 2 (W.opH (O.stV 21 ((jb 21).ver + 1) 0 0 2 2 [(.agg [.str ⟨#[]⟩, .int .i64 0])] [(.agg [.str bm, .int .i64 bw])] (.agg [.str ⟨#[]⟩, .int .i64 0]) (.agg [.str bm, .int .i64 bw])) ?_)
  refine W.adv 6 (W.opS (O.ldV 21 ((jb 21).ver + 1) 0 0 2 1 false false [(.agg [.str bm, .int .i64 bw])] (.str bm)) ?_)
  refine W.adv 1 ?_
  obtain ⟨cq, gm, H⟩ := H
  refine W.cl 52 [(.list 1 (u.map E_string)), .str bm, .int .u64 am] (.bool cq) gm ?_
  refine W.adv 2 ?_
  rcases H with ⟨fl, H⟩ | ⟨fl, H⟩
  ·refine W.cb true cq fl ?_
   refine W.adv 7 (W.opS (O.ldV 21 ((jb 21).ver + 1) 0 0 2 1 false false [(.agg [.str bm, .int .i64 bw])] (.str bm)) ?_)
   obtain ⟨cr, gn, H⟩ := H
   refine W.cl 46 [(.agg [.str aa, (.list 2 (k.map E_api_Node)), (.list 6 (f.map E_api_Link)), (.list 5 (ab.map E_api_Rule))]), .str bm] (.int .i64 cr) gn ?_
   obtain ⟨gp, gq, H⟩ := H
   obtain ⟨fd, fe, c5, fg, fi, fk, gr, H⟩ := H
   refine W.opS (O.ixE E_api_Link 6 .i64 f cr (ByteArray.empty, ByteArray.empty, ByteArray.empty, false, [], []) (fd, fe, c5, fg, fi, fk) gp gq gr) ?_
   refine W.adv 2 ?_
   obtain ⟨bz, gs, H⟩ := H
   refine W.cl 47 [(.agg [.str aa, (.list 2 (k.map E_api_Node)), (.list 6 (f.map E_api_Link)), (.list 5 (ab.map E_api_Rule))]), .str c5] (.int .i64 bz) gs ?_
   refine W.adv 10 ?_
   rcases a5 with ⟨rfl, ce⟩ | ⟨a6, rfl, rfl⟩
   ·subst ce
    exact absurd (Int.lt_of_le_of_lt H.1 H.2.1) (by decide)
   ·obtain ⟨fw, fy, H⟩ := H
    refine W.opS (O.ixR .i64 51 (a6 + 1) 3 e.length bz fw fy) ?_
    obtain ⟨cs, ct, cu, gt, H⟩ := H
    refine W.opS (OpIs.ldE (enc := E_ref08_Q) (b := 51) (v := (a6 + 1)) (i := (bz).toNat) (off := 0) (w := (a6 + 1)) (n := 3) (s := 3) (fz := false) (a := true) (L := e) (d0 := (false, [], [])) (x := (cs, ct, cu)) (r := (.agg [.bool cs, .ints .i64 ct, .ints .i64 cu])) (by kernel_rfl) rfl (by omega) gt (by kernel_rfl)) ?_
    refine W.opS (O.ldV 16 ((vs 16) + 1) 0 0 3 3 false true [(.agg [.bool a7, .ints .i64 a8, .ints .i64 a9])] (.agg [.bool a7, .ints .i64 a8, .ints .i64 a9])) ?_
    refine W.adv 1 (W.opS (O.ldV 21 ((jb 21).ver + 1) 0 1 2 1 false false [(.agg [.str bm, .int .i64 bw])] (.int .i64 bw)) ?_)
    obtain ⟨c6, c7, c8, gu, H⟩ := H
    refine W.cl 22 [.int .i64 bw, .int .i64 1] (.agg [.bool c6, .ints .i64 c7, .ints .i64 c8]) gu ?_
    refine W.opS (O.ldV 18 ((vs 18) + 1) 0 0 3 3 false true [(.agg [.bool a0, .ints .i64 a2, .ints .i64 a3])] (.agg [.bool a0, .ints .i64 a2, .ints .i64 a3])) ?_
    obtain ⟨c9, da, db, gv, H⟩ := H
    refine W.cl 24 [(.agg [.bool c6, .ints .i64 c7, .ints .i64 c8]), (.agg [.bool a0, .ints .i64 a2, .ints .i64 a3])] (.agg [.bool c9, .ints .i64 da, .ints .i64 db]) gv ?_
    obtain ⟨dc, dd, de, gw, H⟩ := H
    refine W.cl 53 [(.agg [.bool a7, .ints .i64 a8, .ints .i64 a9]), (.agg [.bool c9, .ints .i64 da, .ints .i64 db])] (.agg [.bool dc, .ints .i64 dd, .ints .i64 de]) gw ?_
    obtain ⟨df, dg, di, gy, H⟩ := H
    refine W.cl 23 [(.agg [.bool cs, .ints .i64 ct, .ints .i64 cu]), (.agg [.bool dc, .ints .i64 dd, .ints .i64 de])] (.agg [.bool df, .ints .i64 dg, .ints .i64 di]) gy ?_
    refine W.opS (O.ixR .i64 51 (a6 + 1) 3 e.length bz fw fy) ?_
    obtain ⟨dk, f0, H⟩ := H
    have gz : e.length = dk.length := by rw [f0, List.length_set] <;> exact rfl
    refine W.opH (OpIs.stE (enc := E_ref08_Q) (b := 51) (v := (a6 + 1)) (i := (bz).toNat) (off := 0) (w := (a6 + 1)) (n := 3) (s := 3) (L := e) (d0 := (false, [], [])) (x := (e.getD (bz).toNat (false, [], []))) (z := (df, dg, di)) (y := (.agg [.bool df, .ints .i64 dg, .ints .i64 di])) (by kernel_rfl) f0 rfl (by omega) rfl (by kernel_rfl) (Nat.le_of_ble_eq_true (by kernel_rfl)) (by kernel_rfl) (by kernel_rfl)) ?_
    exact W.adv 9 (W.tl (P := ref30_Of_l6_s u am av (wi (bl + 1)) aa k f ab ai ad ae af ac c l p q a7 a8 a9 a0 a2 a3 dk ag (.sref 51 (a6 + 1) 3 0 e.length) (⟨(a6 + 1), false, .rows 3 (dk.map E_ref08_Q)⟩) ay aw) (H _ _ (Opt.row (w := a6) (by first | rfl | omega) gz) _ _ bk))
  ·refine W.cb false cq (bfalse fl) ?_
   exact W.adv 9 (W.tl (H _ _ a5 _ _ bk))
 ·refine W.cf (bl < ((c.getD (av).toNat []).length : Int)) d5 ?_
  exact W.adv 12 (W.tl (H _ _ a5 _ _ bk))
theorem ref30_Of_go (H : ba < 0 ∧ an = ([] : List T_ref08_Q) ∧ ap = false ∧ aq = [] ∧ ar = [] ∧ au = 9 ∨ ¬ ba < 0 ∧ ((bq.length : Int) ≤ ba ∧ an = ([] : List T_ref08_Q) ∧ ap = false ∧ aq = [] ∧ ar = [] ∧ au = 9 ∨ ¬ (bq.length : Int) ≤ ba ∧ 0 ≤ ba ∧ ba < (bq.length : Int) ∧ ∃ dr dt du dw dy, bq.getD (ba).toNat (ByteArray.empty, 0, 0, false, []) = (dr, dt, du, dw, dy) ∧ ∃ dz d1 d2, ref08_Num_R 0 1 dz d1 d2 ∧ ref30_Of_l0 0 d6 d7 d8 bq false dr dt du dw dy dz d1 d2 ([] : List T_ref08_Q) an ap aq ar au)) : ref30_Of_R d6 d7 d8 bq ba an ap aq ar au := by
 refine W.ii Tryz.func12 ?_
 refine W.adv 13 ?_
 rcases H with ⟨br, H⟩ | ⟨br, H⟩
 ·refine W.gt' (ba < 0) br ?_
  refine W.gt' (ba < 0) br ?_
  refine W.gt' (ba < 0) br ?_
  refine W.gt' (ba < 0) br ?_
  refine W.gt' (ba < 0) br ?_
  refine W.opS (O.pk (decide (ba < 0)) true (.bool true) (.tuple []) (decide_eq_true br)) ?_
  exact W.adv 12 (W.fr (Ans.q (.tuple [(.agg [(.list 3 (([] : List T_ref08_Q).map E_ref08_Q)), .bool false, .ints .i64 [], .ints .i64 []]), .int .i64 9]) (by rw [H.1, H.2.1, H.2.2.1, H.2.2.2.1, H.2.2.2.2])))
 ·refine W.gf' (ba < 0) br ?_
  refine W.adv 1 (W.gf' (ba < 0) br ?_)
  refine W.adv 1 (W.gf' (ba < 0) br ?_)
  refine W.adv 1 (W.gf' (ba < 0) br ?_)
  refine W.opS (O.ln bq E_api_Rule) ?_
  refine W.gf' (ba < 0) br ?_
  refine W.adv 1 (W.opS (O.pk (decide (ba < 0)) false (.bool true) (.bool (decide ((bq.length : Int) ≤ ba))) (decide_eq_false br)) ?_)
  refine W.adv 2 ?_
  rcases H with ⟨fm, H⟩ | ⟨fm, H⟩
  ·refine W.ct ((bq.length : Int) ≤ ba) fm ?_
   exact W.adv 9 (W.fr (Ans.q (.tuple [(.agg [(.list 3 (([] : List T_ref08_Q).map E_ref08_Q)), .bool false, .ints .i64 [], .ints .i64 []]), .int .i64 9]) (by rw [H.1, H.2.1, H.2.2.1, H.2.2.2.1, H.2.2.2.2])))
  ·refine W.cf ((bq.length : Int) ≤ ba) fm ?_
   refine W.adv 7 ?_
   obtain ⟨g0, g1, H⟩ := H
   obtain ⟨dr, dt, du, dw, dy, g2, H⟩ := H
   refine W.opS (O.ixE E_api_Rule 5 .i64 bq ba (ByteArray.empty, 0, 0, false, []) (dr, dt, du, dw, dy) g0 g1 g2) ?_
   refine W.adv 7 ?_
   obtain ⟨dz, d1, d2, g3, H⟩ := H
   refine W.cl 22 [.int .i64 0, .int .i64 1] (.agg [.bool dz, .ints .i64 d1, .ints .i64 d2]) g3 ?_
   exact W.adv 12 (W.tl (P := ref30_Of_l0_s 0 d6 d7 d8 bq false dr dt du dw dy dz d1 d2 ([] : List T_ref08_Q) .nilS noBlk) (H _ _ Opt.nil))
end
theorem step_Of_1_v0_go {c : ByteArray} {b : Int} {i : Bool} {k l : List Int} {e : List T_string} {f : List (T_string × T_int)} {m : List T_api_Rat} {z : Bool} (H : ∃ a, slices_Index___string_string__R e c a ∧ 0 ≤ a ∧ (z = (decide ((bits .and .u64 (b / 2 ^ (min (a).toNat 64)) 1) = 1)))) : step_Of_1_v0_R c b i k l e f m z := by
 refine W.ii Tryz.func42 ?_
 refine W.adv 12 ?_
 obtain ⟨a, n, H⟩ := H
 refine W.cl 43 [(.list 1 (e.map E_string)), .str c] (.int .i64 a) n ?_
 obtain ⟨p, H⟩ := H
 refine W.opS (OpIs.bn (op := .shr) (x := (.int .u64 b)) (y := (.int .i64 a)) (by kernel_rfl) (shrD p)) ?_
 exact W.adv 6 (W.fr (Ans.o (.bool (decide ((bits .and .u64 (b / 2 ^ (min (a).toNat 64)) 1) = 1))) (by rw [H])))
end Go.Proofs.YtjcdkemnflmfiaaGreatA
