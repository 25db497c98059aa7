/- The first of networks of a few parts: what is known of it. -/
import Derived.Test.YtjcdkemnflmfiaaGreatPX1
import Derived.Test.YtjcdkemnflmfiaaGreatWlaw30One
import Derived.Test.YtjcdkemnflmfiaaGreatWlaw30few
import Derived.Test.YtjcdkemnflmfiaaGreatWlaw30works
set_option linter.unusedVariables false
set_option linter.unusedSimpArgs false
set_option maxRecDepth 100000
namespace Go.Proofs.YtjcdkemnflmfiaaGreatA
open Go Go.Proofs
abbrev RuleT := ByteArray × Int × Int × Bool × List (List Hop)
abbrev NetT := ByteArray × List NodeT × List LinkT × List RuleT
def W32 (a : Int) : Prop := 0 ≤ a ∧ a < 4294967296
def RawL (l : LinkT) : Prop := ((∀ x ∈ l.2.2.2.2.1, 0 ≤ x) ∧ l.2.2.2.2.1.length ≤ 9223372036854775807) ∧ (∀ x ∈ l.2.2.2.2.2, 0 ≤ x) ∧ l.2.2.2.2.2.length ≤ 9223372036854775807
def RawN (n : NetT) : Prop := (∀ m ∈ n.2.1, ∀ p ∈ m.2, W32 p.1) ∧ (∀ l ∈ n.2.2.1, RawL l) ∧ ∀ r ∈ n.2.2.2, W32 r.2.1
def FL (l : LinkT) : Prop := ∃ q : Rat, l.2.2.2 = fQ q ∧ SZ 1 q
def OkN (N : List NodeT) : Prop := N.length ≤ 5 ∧ ∀ n ∈ N, n.2.length ≤ 3 ∧ ∀ p ∈ n.2, W32 p.1
def OkL (L : List LinkT) : Prop := L.length ≤ 8 ∧ ∀ l ∈ L, FL l
def OkR (R : List RuleT) : Prop := R.length ≤ 8 ∧ ∀ r ∈ R, W32 r.2.1 ∧ GoodGs r.2.2.2.2
def OkNet (n : NetT) : Prop := OkN n.2.1 ∧ OkL n.2.2.1 ∧ OkR n.2.2.2
theorem take_small {α : Type} (l : List α) (w : Int) (h : w ≤ 3) : ((l.take w.toNat).length + 192) * (16 + 1) ≤ 70368744177664 := by rw [List.length_take]; omega
theorem mn3 (n : Nat) : 0 ≤ mn (n : Int) 3 ∧ mn (n : Int) 3 ≤ (n : Int) ∧ mn (n : Int) 3 ≤ 3 := by unfold mn; split <;> omega
abbrev rdef : RuleT := (ByteArray.empty, 0, 0, false, [])
theorem mem_snoc {α : Type} {l : List α} {x : α} {P : α → Prop} (h : ∀ y ∈ l, P y) (hx : P x) : ∀ y ∈ l ++ [x], P y := fun y hy => by
 rcases List.mem_append.1 hy with hy | hy
 ·exact h y hy
 ·rw [List.mem_singleton.1 hy]; exact hx
section
variable {x0 : List NetT} {i : Nat} {nm c : ByteArray} {ns nodes : List NodeT} {ls links : List LinkT} {rs : List RuleT} {acc : List NetT}
abbrev OkNets (z : List NetT) : Prop := ∀ n ∈ z, OkNet n
theorem cl3 (hacc : acc.length ≤ 3) (hrs : ∀ r ∈ rs, W32 r.2.1) (next : ∀ R, OkR R → ∃ z, ref22_Clean_l0 x0 (wi ((i : Int) + 1)) (acc ++ [(c, nodes, links, R)]) z ∧ OkNets z) :
  ∀ (m k : Nat) (R : List RuleT), k + m = 8 → R.length ≤ k → (∀ r ∈ R, W32 r.2.1 ∧ GoodGs r.2.2.2.2) → ∃ z, ref22_Clean_l3 x0 (i : Int) (k : Int) nm ns ls rs c nodes links R acc z ∧ OkNets z
 | 0, k, R, hk, hl, hR => by
  obtain ⟨z, h1, h2⟩ := next R ⟨by omega, hR⟩
  by_cases h : k < rs.length
  ·exact ⟨z, ref22_Clean_l3_go (.inl ⟨by omega, .inr ⟨by omega, by omega, _, rfl, h1⟩⟩), h2⟩
  ·exact ⟨z, ref22_Clean_l3_go (.inr ⟨by omega, by omega, _, rfl, h1⟩), h2⟩
 | m + 1, k, R, hk, hl, hR => by
  by_cases h : k < rs.length
  ·obtain ⟨gz, g1, g2⟩ := clean_go (rs.getD k rdef).1 (rs.getD k rdef).2.1 (rs.getD k rdef).2.2.1 (rs.getD k rdef).2.2.2.1 (rs.getD k rdef).2.2.2.2
   obtain ⟨z, h1, h2⟩ := cl3 hacc hrs next m (k + 1) (R ++ [(short20 (rs.getD k rdef).1, (rs.getD k rdef).2.1, (rs.getD k rdef).2.2.1, (rs.getD k rdef).2.2.2.1, gz)]) (by omega) (by rw [List.length_append]; simp; omega) (mem_snoc hR ⟨hrs (rs.getD k rdef) (getD_mem' h), g2⟩)
   refine ⟨z, ref22_Clean_l3_go (.inl ⟨by omega, .inl ⟨by omega, by omega, (rs.getD k rdef).1, (rs.getD k rdef).2.1, (rs.getD k rdef).2.2.1, (rs.getD k rdef).2.2.2.1, (rs.getD k rdef).2.2.2.2, rfl, _, _, _, _, _, g1, by omega, _, rfl, ?_⟩⟩), h2⟩
   rw [w_succ (by omega)]; exact h1
  ·obtain ⟨z, h1, h2⟩ := next R ⟨by omega, hR⟩
   exact ⟨z, ref22_Clean_l3_go (.inr ⟨by omega, by omega, _, rfl, h1⟩), h2⟩
theorem cl2 (hls : ∀ l ∈ ls, RawL l) (next : ∀ L, OkL L → ∃ z, ref22_Clean_l3 x0 (i : Int) 0 nm ns ls rs c nodes L [] acc z ∧ OkNets z) :
  ∀ (m k : Nat) (L : List LinkT), k + m = 8 → L.length ≤ k → (∀ l ∈ L, FL l) → ∃ z, ref22_Clean_l2 x0 (i : Int) (k : Int) nm ns ls rs c nodes L acc z ∧ OkNets z
 | 0, k, L, hk, hl, hf => by
  obtain ⟨z, h1, h2⟩ := next L ⟨by omega, hf⟩
  by_cases h : k < ls.length
  ·exact ⟨z, ref22_Clean_l2_go (.inl ⟨by omega, .inr ⟨by omega, h1⟩⟩), h2⟩
  ·exact ⟨z, ref22_Clean_l2_go (.inr ⟨by omega, h1⟩), h2⟩
 | m + 1, k, L, hk, hl, hf => by
  by_cases h : k < ls.length
  ·have hr := hls _ (getD_mem' (d := ldef) h)
   obtain ⟨q, q1, q2⟩ := ref08_Clean_is (b := (ls.getD k ldef).2.2.2.1) hr.1.1 hr.2.1 (n := 1) (by omega) (by omega) hr.1.2 hr.2.2
   obtain ⟨z, h1, h2⟩ := cl2 hls next m (k + 1) (L ++ [(short20 (ls.getD k ldef).1, short20 (ls.getD k ldef).2.1, short20 (ls.getD k ldef).2.2.1, ng q.num, ab q.num, lim q.den)]) (by omega) (by rw [List.length_append]; simp; omega) (mem_snoc hf ⟨q, rfl, q2⟩)
   refine ⟨z, ref22_Clean_l2_go (.inl ⟨by omega, .inl ⟨by omega, by omega, (ls.getD k ldef).1, (ls.getD k ldef).2.1, (ls.getD k ldef).2.2.1, (ls.getD k ldef).2.2.2.1, (ls.getD k ldef).2.2.2.2.1, (ls.getD k ldef).2.2.2.2.2, rfl, _, short_go _, _, short_go _, _, short_go _, _, _, _, q1, by omega, _, rfl, ?_⟩⟩), h2⟩
   rw [w_succ (by omega)]; exact h1
  ·obtain ⟨z, h1, h2⟩ := next L ⟨by omega, hf⟩
   exact ⟨z, ref22_Clean_l2_go (.inr ⟨by omega, h1⟩), h2⟩
theorem cl1 (hns : ∀ n ∈ ns, ∀ p ∈ n.2, W32 p.1) (next : ∀ N, OkN N → ∃ z, ref22_Clean_l2 x0 (i : Int) 0 nm ns ls rs c N [] acc z ∧ OkNets z) :
  ∀ (m k : Nat) (N : List NodeT), k + m = 5 → N.length ≤ k → (∀ n ∈ N, n.2.length ≤ 3 ∧ ∀ p ∈ n.2, W32 p.1) → ∃ z, ref22_Clean_l1 x0 (i : Int) (k : Int) nm ns ls rs c N acc z ∧ OkNets z
 | 0, k, N, hk, hl, hN => by
  obtain ⟨z, h1, h2⟩ := next N ⟨by omega, hN⟩
  by_cases h : k < ns.length
  ·exact ⟨z, ref22_Clean_l1_go (.inl ⟨by omega, .inr ⟨by omega, h1⟩⟩), h2⟩
  ·exact ⟨z, ref22_Clean_l1_go (.inr ⟨by omega, h1⟩), h2⟩
 | m + 1, k, N, hk, hl, hN => by
  by_cases h : k < ns.length
  ·have f1 : (k : Int) < (ns.length : Int) := by omega
   have f2 : (k : Int) < 5 := by omega
   have f3 : 0 ≤ (k : Int) := by omega
   have hNl : (N.length + 1 + 192) * (40 + 1) ≤ 70368744177664 := by omega
   have hw : wi ((k : Int) + 1) = ((k + 1 : Nat) : Int) := w_succ (by omega)
   have hl1 : ∀ x : NodeT, (N ++ [x]).length ≤ k + 1 := fun x => by rw [List.length_append, List.length_singleton]; omega
   have hk1 : k + 1 + m = 5 := by omega
   have get : ns.getD (k : Int).toNat (ByteArray.empty, []) = ((ns.getD k (ByteArray.empty, [])).1, (ns.getD k (ByteArray.empty, [])).2) := rfl
   have hh := hns _ (getD_mem' (d := ndef) h)
   generalize ns.getD k (ByteArray.empty, []) = nd at get hh
   obtain ⟨e0, e1, e2⟩ := mn3 nd.2.length
   have hb := take_small nd.2 _ e2
   obtain ⟨z, h1, h2⟩ := cl1 hns next m (k + 1) (N ++ [(short20 nd.1, nd.2.take (mn (nd.2.length : Int) 3).toNat)]) hk1 (hl1 _) (mem_snoc hN ⟨by rw [List.length_take]; omega, fun p hp => hh p (List.mem_of_mem_take hp)⟩)
   have h1' : ref22_Clean_l1 x0 (i : Int) (wi ((k : Int) + 1)) nm ns ls rs c (N ++ [(short20 nd.1, nd.2.take (mn (nd.2.length : Int) 3).toNat)]) acc z := by rw [hw]; exact h1
   exact ⟨z, ref22_Clean_l1_go (.inl ⟨f1, .inl ⟨f2, f3, nd.1, nd.2, get, short20 nd.1, short_go nd.1, nd.1, nd.2, get, nd.1, nd.2, get, e0, e1, hb, _, rfl, hNl, _, rfl, h1'⟩⟩), h2⟩
  ·obtain ⟨z, h1, h2⟩ := next N ⟨by omega, hN⟩
   exact ⟨z, ref22_Clean_l1_go (.inr ⟨by omega, h1⟩), h2⟩
end
abbrev netdef : NetT := (ByteArray.empty, [], [], [])
theorem cl0 {x0 : List NetT} (hx : ∀ n ∈ x0, RawN n) : ∀ (m i : Nat) (acc : List NetT), i + m = 3 → acc.length ≤ i → OkNets acc → ∃ z, ref22_Clean_l0 x0 (i : Int) acc z ∧ OkNets z
 | 0, i, acc, hi, hl, ha => by
  by_cases h : i < x0.length
  ·exact ⟨acc, ref22_Clean_l0_go (.inl ⟨by omega, .inr ⟨by omega, rfl⟩⟩), ha⟩
  ·exact ⟨acc, ref22_Clean_l0_go (.inr ⟨by omega, rfl⟩), ha⟩
 | m + 1, i, acc, hi, hl, ha => by
  by_cases h : i < x0.length
  ·have hr := hx _ (getD_mem' (d := netdef) h)
   obtain ⟨z, h1, h2⟩ := cl1 (x0 := x0) (i := i) (nm := (x0.getD i netdef).1) (ns := (x0.getD i netdef).2.1) (ls := (x0.getD i netdef).2.2.1) (rs := (x0.getD i netdef).2.2.2) (c := short20 (x0.getD i netdef).1) (acc := acc)
    hr.1 (fun N hN => cl2 hr.2.1 (fun L hL => cl3 (by omega) hr.2.2 (fun R hR => by
     rw [w_succ (by omega)]
     exact cl0 hx m (i + 1) _ (by omega) (by rw [List.length_append]; simp; omega) (mem_snoc ha ⟨hN, hL, hR⟩)) 8 0 [] (by omega) (by simp) (fun r hr => by cases hr)) 8 0 [] (by omega) (by simp) (fun r hr => by cases hr)) 5 0 [] (by omega) (by simp) (fun r hr => by cases hr)
   exact ⟨z, ref22_Clean_l0_go (.inl ⟨by omega, .inl ⟨by omega, by omega, (x0.getD i netdef).1, (x0.getD i netdef).2.1, (x0.getD i netdef).2.2.1, (x0.getD i netdef).2.2.2, rfl, _, short_go _, h1⟩⟩), h2⟩
  ·exact ⟨acc, ref22_Clean_l0_go (.inr ⟨by omega, rfl⟩), ha⟩
theorem one_go {x0 : List NetT} (hx : ∀ n ∈ x0, RawN n) : ∃ a N L R, law30_One_R x0 a N L R ∧ OkN N ∧ OkL L ∧ OkR R := by
 obtain ⟨z, h1, h2⟩ := cl0 hx 3 0 [] (by omega) (by simp) (fun n hn => by cases hn)
 by_cases h : z.length = 0
 ·exact ⟨_, _, _, _, law30_One_go ⟨z, ref22_Clean_go h1, .inl ⟨by omega, rfl, rfl, rfl, rfl⟩⟩, ⟨by simp, fun r hr => by cases hr⟩, ⟨by simp, fun r hr => by cases hr⟩, by simp, fun r hr => by cases hr⟩
 ·have hm := h2 _ (getD_mem' (d := netdef) (show 0 < z.length by omega))
  exact ⟨(z.getD 0 netdef).1, (z.getD 0 netdef).2.1, (z.getD 0 netdef).2.2.1, (z.getD 0 netdef).2.2.2, law30_One_go ⟨z, ref22_Clean_go h1, .inr ⟨by omega, by omega, (z.getD 0 netdef).1, (z.getD 0 netdef).2.1, (z.getD 0 netdef).2.2.1, (z.getD 0 netdef).2.2.2, rfl, rfl, rfl, rfl, rfl⟩⟩, hm.1, hm.2.1, hm.2.2⟩
end Go.Proofs.YtjcdkemnflmfiaaGreatA
namespace Go.Proofs.YtjcdkemnflmfiaaGreatA
open Go Go.Proofs
def ws (l : List Hop) : List Int := l.map (·.2)
theorem ws_snoc (l : List Hop) (h : Hop) : ws (l ++ [h]) = ws l ++ [h.2] := by simp [ws]
def isum (l : List Int) : Int := l.foldl (· + ·) 0
theorem isum_from (l : List Int) : ∀ s : Int, l.foldl (· + ·) s = s + isum l := by
 induction l with
 | nil => intro s; simp [isum]
 | cons x l ih =>
  intro s
  have e : isum (x :: l) = l.foldl (· + ·) (0 + x) := rfl
  rw [List.foldl_cons, ih, e, ih (0 + x)]; omega
theorem isum_cons (x : Int) (l : List Int) : isum (x :: l) = x + isum l := by
 have e : isum (x :: l) = l.foldl (· + ·) (0 + x) := rfl
 rw [e, isum_from]; omega
theorem sumQ_cast (l : List Int) : ∀ s : Int, sumQ (s : Rat) (cast l) = ((s + isum l : Int) : Rat) := by
 induction l with
 | nil => intro s; simp [isum, sumQ, cast]
 | cons x l ih =>
  intro s
  have : sumQ (s : Rat) (cast (x :: l)) = sumQ ((s : Rat) + (x : Rat)) (cast l) := rfl
  rw [this, ← Rat.intCast_add, ih, isum_cons, Int.add_assoc]
def GoodW (l : List Hop) : Prop := l.length ≤ 5 ∧ ∀ h ∈ l, 1 ≤ h.2 ∧ h.2 ≤ 2147483648
theorem isum_ge : ∀ {l : List Hop}, (∀ h ∈ l, 1 ≤ h.2 ∧ h.2 ≤ 2147483648) → (l.length : Int) ≤ isum (ws l) ∧ isum (ws l) ≤ 2147483648 * (l.length : Int)
 | [], _ => by simp [isum, ws]
 | x :: l, h => by
  have e : ws (x :: l) = x.2 :: ws l := rfl
  rw [e, isum_cons]
  obtain ⟨h1, h2⟩ := isum_ge (l := l) fun y hy => h y (List.mem_cons_of_mem _ hy)
  have := h x (List.mem_cons_self ..)
  rw [List.length_cons]
  omega
abbrev S_ (l : List Hop) : Rat := ((isum (ws l) : Int) : Rat)
theorem S_ne {l : List Hop} (h : GoodW l) (h0 : l ≠ []) : S_ l ≠ 0 := fun e => by
 have h1 := Rat.intCast_eq_zero_iff.1 e
 have h2 := (isum_ge h.2).1
 have := List.length_pos_iff.2 h0
 omega
theorem S_SZ {l : List Hop} (h : GoodW l) : SZ 2 (S_ l) := by
 obtain ⟨h1, h2⟩ := isum_ge h.2
 have := h.1
 exact SZ_int (by omega) (by omega)
def shs (l : List Hop) : List Rat := (cast (ws l)).map (· / S_ l)
theorem shs_len (l : List Hop) : (shs l).length = l.length := by simp [shs, cast, ws]
theorem shs_get {l : List Hop} {k : Nat} (h : k < l.length) : (shs l).getD k 0 = (((l.getD k hdef).2 : Int) : Rat) / S_ l := by
 rw [shs, List.getD_eq_getElem?_getD, List.getElem?_map, cast, List.getElem?_map, ws, List.getElem?_map, List.getD_eq_getElem?_getD, List.getElem?_eq_getElem h]
 rfl
theorem GoodW.get {l : List Hop} (h : GoodW l) {k : Nat} (hk : k < l.length) : 1 ≤ (l.getD k hdef).2 ∧ (l.getD k hdef).2 ≤ 2147483648 := h.2 _ (getD_mem' hk)
theorem GoodW.filter {l : List Hop} (h : GoodW l) (p : Hop → Bool) : GoodW (l.filter p) := ⟨Nat.le_trans (List.length_filter_le ..) h.1, fun x hx => h.2 x (List.mem_filter.1 hx).1⟩
theorem good_light {gs : List (List Hop)} (hg : GoodGs gs) (hl : light gs = false) : ∀ g ∈ gs, GoodW g := fun g hgm => by
 obtain ⟨h1, h2⟩ := hg.2 g hgm
 refine ⟨h1, fun h hh => ?_⟩
 unfold light at hl
 rw [List.any_eq_false] at hl
 have := hl g hgm
 have := Bool.eq_false_iff.2 this
 rw [List.any_eq_false] at this
 have := this h hh
 have h3 := (h2 h hh).2
 simp at this
 omega
theorem GoodW.nil : GoodW [] := ⟨by simp, fun h hh => by cases hh⟩
theorem good_get {gs : List (List Hop)} (h : ∀ g ∈ gs, GoodW g) (i : Nat) : GoodW (gs.getD i []) := by
 rcases Nat.lt_or_ge i gs.length with hi | hi
 ·exact h _ (getD_mem' hi)
 ·rw [List.getD_eq_getElem?_getD, List.getElem?_eq_none hi]; exact .nil
theorem shares_of {l : List Hop} (h : GoodW l) (h0 : l ≠ []) : fold_Shares_R (ws l) ((shs l).map fQ) 0 := by
 have hwl : (ws l).length = l.length := by simp [ws]
 have h5 := h.1
 obtain ⟨qs, e, h1, h2⟩ := fold_Shares_is (w := ws l) (fun x hx => by
  obtain ⟨y, hy, rfl⟩ := List.mem_map.1 hx
  have := h.2 y hy
  omega) (by omega)
 have hne : ws l ≠ [] := fun e => h0 (List.map_eq_nil_iff.1 e)
 have hs : sumQ 0 (cast (ws l)) = S_ l := by
  have := sumQ_cast (ws l) 0
  rwa [Rat.intCast_zero, Int.zero_add] at this
 have hS := S_ne h h0
 rcases h1 with ⟨a, _, _⟩ | ⟨_, ⟨x, hx, hx0⟩, _⟩ | ⟨_, _, a, _⟩ | ⟨_, _, _, a, b⟩
 ·exact absurd a hne
 ·obtain ⟨y, hy, rfl⟩ := List.mem_map.1 hx
  have := h.2 y hy
  omega
 ·rw [hs] at a; exact absurd a hS
 ·rw [a, b, hs] at h2; exact h2
section
variable {b : Bool} {u v : List Int} {M : List (ByteArray × Int)} {ps : List T_api_Rat} {NS : List ByteArray} {n : Nat}
theorem sh1 (hN : NS.length ≤ 60) (hd : NS.Nodup) (hn : n < 18446744073709551616) {g : List Hop} (hs : ∀ i : Nat, i < g.length → (g.getD i hdef).1 ∈ NS) (hg : GoodW g) {zt0 : List Hop} {zt1 : List T_api_Rat} : ∀ (m k : Nat) (acc : List Hop), k + m = g.length → acc.length ≤ k →
  (∃ t e, fold_Shares_R (ws (acc ++ lvs NS n (g.drop k))) t e ∧ ((e = 0 ∧ zt0 = acc ++ lvs NS n (g.drop k) ∧ zt1 = t) ∨ (¬ e = 0 ∧ zt0 = [] ∧ zt1 = []))) →
  step_Shares_v1_l1 (n : Int) b u v NS M ps g (g.length : Int) (k : Int) acc (ws acc) zt0 zt1
 | 0, k, acc, hk, ha, Ho => by
  rw [List.drop_eq_nil_of_le (by omega)] at Ho
  obtain ⟨t, e, h1, h2⟩ := Ho
  rw [lvs, List.filter_nil, List.append_nil] at h1 h2
  exact step_Shares_v1_l1_go (.inr ⟨by omega, t, e, h1, h2⟩)
 | m + 1, k, acc, hk, ha, Ho => by
  have h : k < g.length := by omega
  have h5 := hg.1
  have hwl : (ws acc).length = acc.length := by simp [ws]
  have hw := hg.get h
  rw [drop_get h hdef, lvs] at Ho
  refine step_Shares_v1_l1_go (.inl ⟨by omega, by omega, by omega, (g.getD k hdef).1, (g.getD k hdef).2, rfl, _, live_is hN hd (hs k h) hn, ?_⟩)
  rw [w_succ (by omega)]
  cases hb : livesB NS (g.getD k hdef).1 n with
  | true =>
   rw [List.filter_cons_of_pos (by rw [hb])] at Ho
   refine .inl ⟨rfl, .inr ⟨by omega, by omega, _, rfl, by omega, _, rfl, ?_⟩⟩
   rw [← ws_snoc acc (g.getD k hdef)]
   refine sh1 hN hd hn hs hg m (k + 1) (acc ++ [g.getD k hdef]) (by omega) (by rw [List.length_append]; simp; omega) ?_
   rw [List.append_assoc]
   exact Ho
  | false =>
   rw [List.filter_cons_of_neg (by rw [hb]; decide)] at Ho
   exact .inr ⟨by simp, sh1 hN hd hn hs hg m (k + 1) acc (by omega) (by omega) Ho⟩
theorem sh0 (hN : NS.length ≤ 60) (hd : NS.Nodup) (hn : n < 18446744073709551616) {g : List Hop} (hs : ∀ i : Nat, i < g.length → (g.getD i hdef).1 ∈ NS) (hg : GoodW g) {zt0 : List Hop} {zt1 : List T_api_Rat} : ∀ (m k : Nat), k + m = g.length →
  (∃ t e, fold_Shares_R (ws (lvs NS n (g.drop k))) t e ∧ ((e = 0 ∧ zt0 = lvs NS n (g.drop k) ∧ zt1 = t) ∨ (¬ e = 0 ∧ zt0 = [] ∧ zt1 = []))) →
  step_Shares_v1_l0 (n : Int) b u v NS M ps g (g.length : Int) (k : Int) zt0 zt1
 | 0, k, hk, Ho => by
  rw [List.drop_eq_nil_of_le (by omega)] at Ho
  obtain ⟨t, e, h1, h2⟩ := Ho
  exact step_Shares_v1_l0_go (.inr ⟨by omega, t, e, h1, h2⟩)
 | m + 1, k, hk, Ho => by
  have h : k < g.length := by omega
  have h5 := hg.1
  have hw := hg.get h
  rw [drop_get h hdef, lvs] at Ho
  refine step_Shares_v1_l0_go (.inl ⟨by omega, by omega, by omega, (g.getD k hdef).1, (g.getD k hdef).2, rfl, _, live_is hN hd (hs k h) hn, ?_⟩)
  rw [w_succ (by omega)]
  cases hb : livesB NS (g.getD k hdef).1 n with
  | true =>
   rw [List.filter_cons_of_pos (by rw [hb])] at Ho
   exact .inl ⟨rfl, .inr ⟨by omega, by omega, _, rfl, by omega, _, rfl, sh1 hN hd hn hs hg m (k + 1) [g.getD k hdef] (by omega) (by simp) Ho⟩⟩
  | false =>
   rw [List.filter_cons_of_neg (by rw [hb]; decide)] at Ho
   exact .inr ⟨by simp, sh0 hN hd hn hs hg m (k + 1) (by omega) Ho⟩
end
def hopsB (NS : List ByteArray) (gs : List (List Hop)) (n : Nat) : List Hop :=
 if ix (fun g => g.any fun h => livesB NS h.1 n) gs 0 < 0 then [] else lvs NS n (gs.getD (ix (fun g => g.any fun h => livesB NS h.1 n) gs 0).toNat [])
theorem hopsB_tells (NS : List ByteArray) (gs : List (List Hop)) (n : Nat) : (ix (fun g => g.any fun h => livesB NS h.1 n) gs 0 = -1 ∧ hopsB NS gs n = []) ∨ ∃ k : Nat, ix (fun g => g.any fun h => livesB NS h.1 n) gs 0 = (k : Int) ∧ k < gs.length ∧ hopsB NS gs n = lvs NS n (gs.getD k []) ∧ hopsB NS gs n ≠ [] := by
 rcases ix_tells (fun g : List Hop => g.any fun h => livesB NS h.1 n) gs 0 with ⟨h1, _⟩ | ⟨k, h1, h2, _, h4⟩
 ·exact .inl ⟨h1, by unfold hopsB; rw [h1, if_pos (by decide)]⟩
 ·rw [Nat.zero_add] at h1
  have e : hopsB NS gs n = lvs NS n (gs.getD k []) := by unfold hopsB; rw [h1, if_neg (by omega), Int.toNat_natCast]
  refine .inr ⟨k, h1, h2, e, fun h0 => ?_⟩
  rw [e] at h0
  have h5 := h4 []
  obtain ⟨x, hx, hl⟩ := List.any_eq_true.1 h5
  have : x ∈ lvs NS n (gs.getD k []) := List.mem_filter.2 ⟨hx, hl⟩
  rw [h0] at this; cases this
theorem hopsB_good {NS : List ByteArray} {gs : List (List Hop)} (hw : ∀ g ∈ gs, GoodW g) (n : Nat) : GoodW (hopsB NS gs n) := by
 rcases hopsB_tells NS gs n with ⟨_, h⟩ | ⟨k, _, _, h, _⟩
 ·rw [h]; exact .nil
 ·rw [h]; exact (good_get hw k).filter _
theorem hopsB_mem {NS : List ByteArray} {gs : List (List Hop)} {n : Nat} {h : Hop} (hh : h ∈ hopsB NS gs n) : ∃ g ∈ gs, h ∈ g := by
 rcases hopsB_tells NS gs n with ⟨_, e⟩ | ⟨k, _, hk, e, _⟩
 ·rw [e] at hh; cases hh
 ·rw [e] at hh; exact ⟨_, getD_mem' hk, (List.mem_filter.1 hh).1⟩
section
variable {b : Bool} {u v : List Int} {M : List (ByteArray × Int)} {ps : List T_api_Rat} {gs : List (List Hop)} {n : Nat}
theorem shares_is (a : ByteArray) (c e : Int) (d : Bool) (hg : GoodGs gs) (hw : ∀ g ∈ gs, GoodW g) (hn : n < 18446744073709551616) : step_Shares_v1_R a c e d gs (n : Int) b u v (names gs) M ps (hopsB (names gs) gs n) ((shs (hopsB (names gs) gs n)).map fQ) := by
 have hl := names_len hg
 have hm : ∀ g ∈ gs, ∀ h ∈ g, h.1 ∈ names gs := fun g hg' h hh => names_mem hg' hh
 have hgr := grp_is (b := b) (u := u) (v := v) (M := M) (ps := ps) (by omega) (names_nodup gs) hn a c e d hg hm
 have h4 := hg.1
 rcases hopsB_tells (names gs) gs n with ⟨h1, h2⟩ | ⟨k, h1, h2, h3, h5⟩
 ·rw [h1] at hgr
  rw [h2]
  exact step_Shares_v1_go ⟨_, hgr, .inl ⟨by decide, rfl, rfl⟩⟩
 ·rw [h1] at hgr
  refine step_Shares_v1_go ⟨_, hgr, .inr ⟨by omega, by omega, by omega, ?_⟩⟩
  rw [Int.toNat_natCast]
  have hgw := good_get hw k
  refine sh0 (by omega) (names_nodup gs) hn (fun i hi => hm _ (getD_mem' h2) _ (getD_mem' hi)) hgw (gs.getD k []).length 0 (by omega) ?_
  rw [List.drop_zero, ← h3]
  exact ⟨_, 0, shares_of (hopsB_good hw n) h5, .inl ⟨rfl, rfl, rfl⟩⟩
end
abbrev lnk (L : List LinkT) (s : ByteArray) : LinkT := L.getD (lk L s).toNat ldef
abbrev toI (N : List NodeT) (L : List LinkT) (s : ByteArray) : Int := nd N (lnk L s).2.2.1
def roadOk (N : List NodeT) (L : List LinkT) (s : ByteArray) : Bool := decide (0 ≤ lk L s) && decide (0 ≤ toI N L s)
def putAll (N : List NodeT) (L : List LinkT) (l : List ByteArray) (M : List (ByteArray × Int)) : List (ByteArray × Int) := l.foldl (fun M s => mput s (toI N L s) M) M
theorem putAll_get (N : List NodeT) (L : List LinkT) (s : ByteArray) : ∀ (l : List ByteArray) (M : List (ByteArray × Int)), (s ∈ l ∨ mget s M = some (toI N L s)) → mget s (putAll N L l M) = some (toI N L s)
 | [], M, h => h.elim (fun h => by cases h) id
 | x :: l, M, h => by
  refine putAll_get N L s l _ ?_
  rw [mget_put]
  by_cases e : s = x
  ·rw [if_pos e, e]; exact .inr rfl
  ·rw [if_neg e]
   rcases h with h | h
   ·exact .inl ((List.mem_cons.1 h).resolve_left e)
   ·exact .inr h
section
variable {a x : ByteArray} {N : List NodeT} {L : List LinkT} {R : List T_api_Rule} {NS : List ByteArray} {z0 : List ByteArray} {z1 : List (ByteArray × Int)} {z2 : List T_api_Rat} {z3 : Int}
theorem links_loop (hN : N.length ≤ 1000) (hL : L.length ≤ 1000) (hNS : NS.length ≤ 1000) : ∀ (m i : Nat) (M : List (ByteArray × Int)) (P : List T_api_Rat), i + m = NS.length → P.length ≤ i →
  ((NS.drop i).all (roadOk N L) = true → z0 = NS ∧ z1 = putAll N L (NS.drop i) M ∧ z2 = P ++ (NS.drop i).map (fun s => (lnk L s).2.2.2) ∧ z3 = 0) →
  ((NS.drop i).all (roadOk N L) = false → z0 = [] ∧ z1 = [] ∧ z2 = [] ∧ z3 = 9) →
  step_links_l0 NS (NS.length : Int) (i : Int) a N L R NS M P z0 z1 z2 z3
 | 0, i, M, P, hi, hP, Ht, Hf => by
  rw [List.drop_eq_nil_of_le (by omega)] at Ht
  obtain ⟨h0, h1, h2, h3⟩ := Ht rfl
  exact step_links_l0_go (.inr ⟨by omega, h0, h1, by rw [h2]; simp, h3⟩)
 | m + 1, i, M, P, hi, hP, Ht, Hf => by
  have h : i < NS.length := by omega
  rw [drop_get h ByteArray.empty, List.all_cons] at Ht Hf
  refine step_links_l0_go (.inl ⟨by omega, by omega, by omega, _, _, formed_Link_is hL a _, ?_⟩)
  rw [Int.toNat_natCast]
  by_cases h1 : 0 ≤ lk L (NS.getD i ByteArray.empty)
  ·have hlt := lk_lt h1
   rw [mx_pos h1]
   refine .inl ⟨decide_eq_true h1, h1, by omega, (lnk L (NS.getD i ByteArray.empty)).1, (lnk L (NS.getD i ByteArray.empty)).2.1, (lnk L (NS.getD i ByteArray.empty)).2.2.1, (lnk L (NS.getD i ByteArray.empty)).2.2.2.1, (lnk L (NS.getD i ByteArray.empty)).2.2.2.2.1, (lnk L (NS.getD i ByteArray.empty)).2.2.2.2.2, rfl, _, _, formed_Node_is hN a _, ?_⟩
   by_cases h2 : 0 ≤ toI N L (NS.getD i ByteArray.empty)
   ·have ho : roadOk N L (NS.getD i ByteArray.empty) = true := by unfold roadOk; rw [decide_eq_true h1, decide_eq_true h2]; rfl
    rw [ho, Bool.true_and] at Ht Hf
    refine .inl ⟨decide_eq_true h2, _, rfl, (lnk L (NS.getD i ByteArray.empty)).1, (lnk L (NS.getD i ByteArray.empty)).2.1, (lnk L (NS.getD i ByteArray.empty)).2.2.1, (lnk L (NS.getD i ByteArray.empty)).2.2.2.1, (lnk L (NS.getD i ByteArray.empty)).2.2.2.2.1, (lnk L (NS.getD i ByteArray.empty)).2.2.2.2.2, rfl, by omega, _, rfl, ?_⟩
    rw [w_succ (by omega), mx_pos h2]
    refine links_loop hN hL hNS m (i + 1) _ _ (by omega) (by rw [List.length_append, List.length_singleton]; omega) (fun hh => ?_) Hf
    obtain ⟨g0, g1, g2, g3⟩ := Ht hh
    exact ⟨g0, g1, by rw [g2, List.map_cons, List.append_assoc]; rfl, g3⟩
   ·have ho : roadOk N L (NS.getD i ByteArray.empty) = false := by unfold roadOk; rw [decide_eq_false h2, Bool.and_false]
    rw [ho, Bool.false_and] at Hf
    exact .inr ⟨by rw [decide_eq_false h2]; simp, Hf rfl⟩
  ·have ho : roadOk N L (NS.getD i ByteArray.empty) = false := by unfold roadOk; rw [decide_eq_false h1, Bool.false_and]
   rw [ho, Bool.false_and] at Hf
   exact .inr ⟨by rw [decide_eq_false h1]; simp, Hf rfl⟩
theorem links_ok (hN : N.length ≤ 1000) (hL : L.length ≤ 1000) {c e : Int} {d : Bool} {gs : List (List Hop)} (hg : GoodGs gs) (h : (names gs).all (roadOk N L) = true) :
  step_links_R a N L R x c e d gs (names gs) (putAll N L (names gs) []) ((names gs).map fun s => (lnk L s).2.2.2) 0 :=
 step_links_go ⟨_, lim_Out_is x c e d hg, links_loop hN hL (by have := names_len hg; omega) (names gs).length 0 [] [] (by omega) (by simp) (fun _ => ⟨rfl, rfl, rfl, rfl⟩) (fun h' => by rw [List.drop_zero, h] at h'; cases h')⟩
theorem links_no (hN : N.length ≤ 1000) (hL : L.length ≤ 1000) {c e : Int} {d : Bool} {gs : List (List Hop)} (hg : GoodGs gs) (h : (names gs).all (roadOk N L) = false) :
  step_links_R a N L R x c e d gs [] [] [] 9 :=
 step_links_go ⟨_, lim_Out_is x c e d hg, links_loop hN hL (by have := names_len hg; omega) (names gs).length 0 [] [] (by omega) (by simp) (fun h' => by rw [List.drop_zero, h] at h'; cases h') (fun _ => ⟨rfl, rfl, rfl, rfl⟩)⟩
end
theorem fails_of {N : List NodeT} {L : List LinkT} (hL : ∀ l ∈ L, FL l) : ∀ {l : List ByteArray}, l.all (roadOk N L) = true → ∃ qs : List Rat, (l.map fun s => (lnk L s).2.2.2) = qs.map fQ ∧ AZ 1 qs ∧ qs.length = l.length
 | [], _ => ⟨[], rfl, (fun q hq => by cases hq), rfl⟩
 | s :: l, h => by
  rw [List.all_cons, Bool.and_eq_true] at h
  obtain ⟨qs, h1, h2, h3⟩ := fails_of hL h.2
  have hs := h.1
  unfold roadOk at hs
  rw [Bool.and_eq_true, decide_eq_true_iff] at hs
  obtain ⟨q, q1, q2⟩ := hL _ (getD_mem' (d := ldef) (lk_lt hs.1))
  exact ⟨q :: qs, by rw [List.map_cons, List.map_cons, h1, ← q1], fun p hp => by
   rcases List.mem_cons.1 hp with rfl | hp
   ·exact q2
   ·exact h2 p hp, by rw [List.length_cons, List.length_cons, h3]⟩
end Go.Proofs.YtjcdkemnflmfiaaGreatA
namespace Go.Proofs.YtjcdkemnflmfiaaGreatA
open Go Go.Proofs
def addF (k : Int) (x : Rat) (f : Int → Rat) : Int → Rat := fun j => if j = k then f j + x else f j
def caseF (t : ByteArray → Int) (p S : Rat) (l : List Hop) (f : Int → Rat) : Int → Rat := l.foldl (fun f h => addF (t h.1) (p * (((h.2 : Int) : Rat) / S)) f) f
def stepF (t : ByteArray → Int) (NS : List ByteArray) (gs : List (List Hop)) (n : Nat) (p : Rat) (f : Int → Rat) : Int → Rat := caseF t p (S_ (hopsB NS gs n)) (hopsB NS gs n) f
def stepL (NS : List ByteArray) (gs : List (List Hop)) (n : Nat) (p x : Rat) : Rat := if (hopsB NS gs n).isEmpty = true then x + p else x
def allF (t : ByteArray → Int) (NS : List ByteArray) (gs : List (List Hop)) (cs : List (Nat × Rat)) (f : Int → Rat) : Int → Rat := cs.foldl (fun f c => stepF t NS gs c.1 c.2 f) f
def allL (NS : List ByteArray) (gs : List (List Hop)) (cs : List (Nat × Rat)) (x : Rat) : Rat := cs.foldl (fun x c => stepL NS gs c.1 c.2 x) x
def BF (z : Nat) (f : Int → Rat) : Prop := ∀ k, SZ z (f k)
theorem addF_at (k : Int) (x : Rat) (f : Int → Rat) : addF k x f k = f k + x := if_pos rfl
theorem addF_ne {k j : Int} (h : j ≠ k) (x : Rat) (f : Int → Rat) : addF k x f j = f j := if_neg h
theorem BF.mono {y z : Nat} {f : Int → Rat} (h : BF y f) (hz : y ≤ z) : BF z f := fun k => (h k).mono hz
theorem BF.add {z w : Nat} {f : Int → Rat} (h : BF z f) {x : Rat} (hx : SZ w x) (k : Int) : BF (z + w + 1) (addF k x f) := fun j => by
 by_cases e : j = k
 ·subst e; rw [addF_at]; exact (h j).add2 hx
 ·rw [addF_ne e]; exact (h j).mono (by omega)
theorem share_SZ {l : List Hop} (hl : GoodW l) (h0 : l ≠ []) {h : Hop} (hh : 1 ≤ h.2 ∧ h.2 ≤ 2147483648) {w : Nat} {p : Rat} (hp : SZ w p) : SZ 4 (((h.2 : Int) : Rat) / S_ l) ∧ SZ (w + 4) (p * (((h.2 : Int) : Rat) / S_ l)) := by
 have h1 : SZ 4 (((h.2 : Int) : Rat) / S_ l) := (SZ_int (n := h.2) (by omega) (by omega)).div2 (S_ne hl h0) (S_SZ hl)
 exact ⟨h1, hp.mul2 h1⟩
theorem caseF_SZ (t : ByteArray → Int) {w : Nat} {p : Rat} (hp : SZ w p) {L : List Hop} (hL : GoodW L) (h0 : L ≠ []) : ∀ (l : List Hop) {z : Nat} {f : Int → Rat}, (∀ h ∈ l, 1 ≤ h.2 ∧ h.2 ≤ 2147483648) → BF z f → BF (z + l.length * (w + 5)) (caseF t p (S_ L) l f)
 | [], z, f, _, hf => hf.mono (by omega)
 | x :: l, z, f, hl, hf => by
  have h1 := hf.add (share_SZ hL h0 (hl x (List.mem_cons_self ..)) hp).2 (t x.1)
  have h2 := caseF_SZ t hp hL h0 l (fun h hh => hl h (List.mem_cons_of_mem _ hh)) h1
  have e : caseF t p (S_ L) (x :: l) f = caseF t p (S_ L) l (addF (t x.1) (p * (((x.2 : Int) : Rat) / S_ L)) f) := rfl
  rw [e]
  refine h2.mono ?_
  rw [List.length_cons, Nat.succ_mul]; omega
theorem stepF_SZ (t : ByteArray → Int) {NS : List ByteArray} {gs : List (List Hop)} (hw : ∀ g ∈ gs, GoodW g) {n : Nat} {w z : Nat} {p : Rat} (hp : SZ w p) {f : Int → Rat} (hf : BF z f) : BF (z + 5 * (w + 5)) (stepF t NS gs n p f) := by
 have hg := hopsB_good (NS := NS) hw n
 unfold stepF
 by_cases h0 : hopsB NS gs n = []
 ·rw [h0]; exact hf.mono (by omega)
 ·refine (caseF_SZ t hp hg h0 _ hg.2 hf).mono ?_
  have := Nat.mul_le_mul_right (w + 5) hg.1
  omega
theorem stepL_SZ {NS : List ByteArray} {gs : List (List Hop)} {n : Nat} {w z : Nat} {p x : Rat} (hp : SZ w p) (hx : SZ z x) : SZ (z + 5 * (w + 5)) (stepL NS gs n p x) := by
 unfold stepL
 split
 ·exact (hx.add2 hp).mono (by omega)
 ·exact hx.mono (by omega)
def Rep (m : List (Int × T_api_Rat)) (f : Int → Rat) : Prop := ∀ k : Int, mget k m = some (fQ (f k)) ∨ (mget k m = none ∧ f k = 0)
theorem Rep.nil : Rep [] (fun _ => 0) := fun k => .inr ⟨rfl, rfl⟩
theorem Rep.put {m : List (Int × T_api_Rat)} {f : Int → Rat} (h : Rep m f) (k : Int) (x : Rat) : Rep (mput k (fQ (f k + x)) m) (addF k x f) := fun j => by
 rw [mget_put]
 by_cases e : j = k
 ·subst e; rw [if_pos rfl, addF_at]; exact .inl rfl
 ·rw [if_neg e, addF_ne e]; exact h j
theorem Rep.zero {m : List (Int × T_api_Rat)} {f : Int → Rat} (h : Rep m f) {k : Int} (hk : f k = 0) : Rep (mput k (fQ 0) m) f := fun j => by
 rw [mget_put]
 by_cases e : j = k
 ·subst e; rw [if_pos rfl, hk]; exact .inl rfl
 ·rw [if_neg e]; exact h j
section
variable {a x : ByteArray} {N : List NodeT} {L : List LinkT} {R : List T_api_Rule} {c e : Int} {d d4 : Bool} {gs : List (List Hop)} {NS : List ByteArray} {M : List (ByteArray × Int)} {ps : List T_api_Rat} {z0 : List Int} {z1 : List T_api_Rat} {z2 : Bool} {z3 z4 : List Int} {z5 : Int} {CS : List T_fail_Case} {K i : Int}
theorem hop_loop {t : ByteArray → Int} {n : Int} {w : Nat} {p lost : Rat} (hp : SZ w p) (hw : w ≤ 1000) {l : List Hop} (hl : GoodW l) (hM : ∀ h ∈ l, mget h.1 M = some (t h.1)) : ∀ (mm j : Nat) (m : List (Int × T_api_Rat)) (f : Int → Rat) (z : Nat), j + mm = l.length → Rep m f → BF z f → z + mm * (w + 5) ≤ 9000 →
  (∀ m', Rep m' (caseF t p (S_ l) (l.drop j) f) → step_Of_l0 CS K (wi (i + 1)) a N L R d4 x c e d gs NS M ps (ng lost.num) (ab lost.num) (lim lost.den) m' z0 z1 z2 z3 z4 z5) →
  step_Of_l1 ((shs l).map fQ) CS K i l (l.length : Int) (j : Int) a N L R d4 x c e d gs NS M ps (ng lost.num) (ab lost.num) (lim lost.den) n (ng p.num) (ab p.num) (lim p.den) m z0 z1 z2 z3 z4 z5
 | 0, j, m, f, z, hj, hr, hf, hz, H => by
  rw [List.drop_eq_nil_of_le (by omega)] at H
  exact step_Of_l1_go (.inr ⟨by omega, H m hr⟩)
 | mm + 1, j, m, f, z, hj, hr, hf, hz, H => by
  have h : j < l.length := by omega
  have h5 := hl.1
  have h0 : l ≠ [] := fun e => by rw [e] at h; cases h
  have hh := hl.get h
  obtain ⟨s1, s2⟩ := share_SZ hl h0 hh hp
  have hsl := shs_len l
  have hlm : ((shs l).map fQ).length = l.length := by rw [List.length_map, hsl]
  have g1 := getD_fQ (qs := shs l) (i := j) (by omega) (false, [], [])
  rw [shs_get h] at g1
  rw [Nat.succ_mul] at hz
  have hm := hM _ (getD_mem' (d := hdef) h)
  have mul := rat_Mul_is (hp.mono (show w ≤ 10000 by omega)) (s1.mono (show 4 ≤ 10000 by omega))
  have add := rat_Add_is ((hf (t (l.getD j hdef).1)).mono (show z ≤ 10000 by omega)) (s2.mono (show w + 4 ≤ 10000 by omega))
  rw [drop_get h hdef] at H
  refine step_Of_l1_go (.inl ⟨by omega, by omega, by omega, (l.getD j hdef).1, (l.getD j hdef).2, rfl, _, hm, ?_⟩)
  rw [w_succ (by omega)]
  rcases hr (t (l.getD j hdef).1) with hg | ⟨hg, hg0⟩
  ·exact .inl ⟨_, hg, _, hg, by omega, _, _, _, g1, _, _, _, mul, _, _, _, add, _, rfl, hop_loop hp hw hl hM mm (j + 1) _ _ (z + (w + 4) + 1) (by omega) (hr.put _ _) (hf.add s2 _) (by omega) H⟩
  ·have hr2 := hr.zero hg0
   have hg2 : mget (t (l.getD j hdef).1) (mput (t (l.getD j hdef).1) (fQ 0) m) = some (fQ (f (t (l.getD j hdef).1))) := by rw [mget_put, if_pos rfl, hg0]
   exact .inr ⟨hg, _, _, _, rat_Of0, _, rfl, _, hg2, by omega, _, _, _, g1, _, _, _, mul, _, _, _, add, _, rfl, hop_loop hp hw hl hM mm (j + 1) _ _ (z + (w + 4) + 1) (by omega) (hr2.put _ _) (hf.add s2 _) (by omega) H⟩
end
section
variable {a x : ByteArray} {N : List NodeT} {L : List LinkT} {R : List T_api_Rule} {c e : Int} {d d4 : Bool} {gs : List (List Hop)} {M : List (ByteArray × Int)} {ps : List T_api_Rat} {z0 : List Int} {z1 : List T_api_Rat} {z2 : Bool} {z3 z4 : List Int} {z5 : Int}
theorem case_loop {t : ByteArray → Int} (hg : GoodGs gs) (hgw : ∀ g ∈ gs, GoodW g) (hM : ∀ s ∈ names gs, mget s M = some (t s)) {w : Nat} (hw : w ≤ 1000) {cs : List (Nat × Rat)} (hcl : cs.length ≤ 1000) (hcs : ∀ c ∈ cs, c.1 < 18446744073709551616 ∧ SZ w c.2) :
  ∀ (mm i : Nat) (m : List (Int × T_api_Rat)) (f : Int → Rat) (lost : Rat) (z : Nat), i + mm = cs.length → Rep m f → BF z f → SZ z lost → z + mm * (5 * (w + 5)) ≤ 9000 →
  (∀ m', Rep m' (allF t (names gs) gs (cs.drop i) f) → step_Of_l2 (N.length : Int) 0 d4 (ng (allL (names gs) gs (cs.drop i) lost).num) (ab (allL (names gs) gs (cs.drop i) lost).num) (lim (allL (names gs) gs (cs.drop i) lost).den) m' [] z0 z1 z2 z3 z4 z5) →
  step_Of_l0 (cs.map fC) (cs.length : Int) (i : Int) a N L R d4 x c e d gs (names gs) M ps (ng lost.num) (ab lost.num) (lim lost.den) m z0 z1 z2 z3 z4 z5
 | 0, i, m, f, lost, z, hi, hr, hf, hlost, hz, H => by
  rw [List.drop_eq_nil_of_le (by omega)] at H
  exact step_Of_l0_go (.inr ⟨by omega, H m hr⟩)
 | mm + 1, i, m, f, lost, z, hi, hr, hf, hlost, hz, H => by
  have h : i < cs.length := by omega
  have hlm : (cs.map fC).length = cs.length := List.length_map _
  have hcc := hcs _ (getD_mem' (d := (0, 0)) h)
  have g1 := getD_fC (cs := cs) h (0, false, [], [])
  rw [drop_get h (0, 0)] at H
  generalize cs.getD i (0, 0) = cc at hcc g1 H
  obtain ⟨n, p⟩ := cc
  obtain ⟨hn, hp⟩ := hcc
  have hgd := hopsB_good (NS := names gs) hgw n
  have hh5 := hgd.1
  rw [Nat.succ_mul] at hz
  have hMM : ∀ h ∈ hopsB (names gs) gs n, mget h.1 M = some (t h.1) := fun h hh => by
   obtain ⟨g, hgm, hhg⟩ := hopsB_mem hh
   exact hM _ (names_mem hgm hhg)
  have hmul := Nat.mul_le_mul_right (w + 5) hh5
  have next : ∀ m', Rep m' (caseF t p (S_ (hopsB (names gs) gs n)) ((hopsB (names gs) gs n).drop 0) f) → step_Of_l0 (cs.map fC) (cs.length : Int) (wi ((i : Int) + 1)) a N L R d4 x c e d gs (names gs) M ps (ng (stepL (names gs) gs n p lost).num) (ab (stepL (names gs) gs n p lost).num) (lim (stepL (names gs) gs n p lost).den) m' z0 z1 z2 z3 z4 z5 := fun m' hr' => by
   rw [w_succ (by omega)]
   rw [List.drop_zero] at hr'
   exact case_loop hg hgw hM hw hcl hcs mm (i + 1) m' _ _ (z + 5 * (w + 5)) (by omega) hr' (stepF_SZ t hgw hp hf) (stepL_SZ hp hlost) (by omega) H
  refine step_Of_l0_go (.inl ⟨by omega, by omega, by omega, _, _, _, _, g1, _, _, shares_is x c e d hg hgw hn, ?_⟩)
  by_cases h0 : (hopsB (names gs) gs n).isEmpty = true
  ·have e0 : hopsB (names gs) gs n = [] := List.isEmpty_iff.1 h0
   have eL : stepL (names gs) gs n p lost = lost + p := if_pos h0
   rw [eL] at next
   exact .inl ⟨by rw [e0]; rfl, _, _, _, rat_Add_is (hlost.mono (by omega)) (hp.mono (by omega)), hop_loop hp hw hgd hMM (hopsB (names gs) gs n).length 0 m f z (by omega) hr hf (by omega) next⟩
  ·have e0 : hopsB (names gs) gs n ≠ [] := fun e => h0 (List.isEmpty_iff.2 e)
   have eL : stepL (names gs) gs n p lost = lost := if_neg h0
   rw [eL] at next
   exact .inr ⟨fun e => e0 (List.length_eq_zero_iff.1 (Int.natCast_eq_zero.1 e)), hop_loop hp hw hgd hMM (hopsB (names gs) gs n).length 0 m f z (by omega) hr hf (by omega) next⟩
def outI (f : Int → Rat) (n : Nat) : List Nat := (List.range n).filter fun k => decide (f (k : Int) ≠ 0)
theorem outI_succ (f : Int → Rat) (n : Nat) : outI f (n + 1) = if f (n : Int) = 0 then outI f n else outI f n ++ [n] := by
 unfold outI
 rw [List.range_succ, List.filter_append]
 by_cases h : f (n : Int) = 0
 ·rw [if_pos h, List.filter_cons_of_neg (by simpa using h)]; simp
 ·rw [if_neg h, List.filter_cons_of_pos (by simpa using h)]; simp
theorem outI_len (f : Int → Rat) (n : Nat) : (outI f n).length ≤ n := by
 have := List.length_filter_le (fun k : Nat => decide (f (k : Int) ≠ 0)) (List.range n)
 rw [List.length_range] at this
 exact this
def outT (f : Int → Rat) (n : Nat) : List Int := (outI f n).map fun k : Nat => (k : Int)
def outP (f : Int → Rat) (n : Nat) : List T_api_Rat := (outI f n).map fun k : Nat => fQ (f (k : Int))
theorem outT_succ {f : Int → Rat} {n : Nat} (h : ¬ f (n : Int) = 0) : outT f (n + 1) = outT f n ++ [(n : Int)] ∧ outP f (n + 1) = outP f n ++ [fQ (f (n : Int))] := by
 unfold outT outP
 rw [outI_succ, if_neg h]
 constructor <;> simp
theorem outT_same {f : Int → Rat} {n : Nat} (h : f (n : Int) = 0) : outT f (n + 1) = outT f n ∧ outP f (n + 1) = outP f n := by
 unfold outT outP
 rw [outI_succ, if_pos h]
 exact ⟨rfl, rfl⟩
theorem out_l3 {n : Nat} (hn : n ≤ 1000) {m : List (Int × T_api_Rat)} {f : Int → Rat} (hr : Rep m f) {lost : Rat} : ∀ (mm i : Nat), i + mm = n →
  step_Of_l3 (n : Int) (i : Int) d4 (ng lost.num) (ab lost.num) (lim lost.den) m (outT f i) (outP f i) (outT f n) (outP f n) (ng lost.num) (ab lost.num) (lim lost.den) 0
 | 0, i, hi => by
  obtain rfl : i = n := by omega
  exact step_Of_l3_go (.inr ⟨by omega, rfl, rfl, rfl, rfl, rfl, rfl⟩)
 | mm + 1, i, hi => by
  have ih := out_l3 hn hr (lost := lost) mm (i + 1) (by omega)
  have hl := outI_len f i
  have l1 : (outT f i).length = (outI f i).length := List.length_map _
  have l2 : (outP f i).length = (outI f i).length := List.length_map _
  refine step_Of_l3_go (.inl ⟨by omega, ?_⟩)
  rw [w_succ (by omega)]
  rcases hr (i : Int) with hg | ⟨hg, hg0⟩
  ·refine .inl ⟨_, hg, _, rat_Sign_is (f (i : Int)), ?_⟩
   by_cases h0 : f (i : Int) = 0
   ·rw [(outT_same h0).1, (outT_same h0).2] at ih
    exact .inl ⟨(sn_zero _).2 h0, ih⟩
   ·rw [(outT_succ h0).1, (outT_succ h0).2] at ih
    exact .inr ⟨fun e => h0 ((sn_zero _).1 e), by omega, _, rfl, by omega, _, rfl, ih⟩
  ·rw [(outT_same hg0).1, (outT_same hg0).2] at ih
   exact .inr ⟨hg, ih⟩
theorem out_l2 {n : Nat} (hn : n ≤ 1000) {m : List (Int × T_api_Rat)} {f : Int → Rat} (hr : Rep m f) {lost : Rat} : ∀ (mm i : Nat), i + mm = n → outI f i = [] →
  step_Of_l2 (n : Int) (i : Int) d4 (ng lost.num) (ab lost.num) (lim lost.den) m [] (outT f n) (outP f n) (ng lost.num) (ab lost.num) (lim lost.den) 0
 | 0, i, hi, h0 => by
  obtain rfl : i = n := by omega
  have e1 : outT f i = [] := by unfold outT; rw [h0]; rfl
  have e2 : outP f i = [] := by unfold outP; rw [h0]; rfl
  exact step_Of_l2_go (.inr ⟨by omega, e1, e2, rfl, rfl, rfl, rfl⟩)
 | mm + 1, i, hi, h0 => by
  have e1 : outT f i = [] := by unfold outT; rw [h0]; rfl
  have e2 : outP f i = [] := by unfold outP; rw [h0]; rfl
  refine step_Of_l2_go (.inl ⟨by omega, ?_⟩)
  rw [w_succ (by omega)]
  rcases hr (i : Int) with hg | ⟨hg, hg0⟩
  ·refine .inl ⟨_, hg, _, rat_Sign_is (f (i : Int)), ?_⟩
   by_cases hz : f (i : Int) = 0
   ·exact .inl ⟨(sn_zero _).2 hz, out_l2 hn hr mm (i + 1) (by omega) (by rw [outI_succ, if_pos hz, h0])⟩
   ·have ih := out_l3 (d4 := d4) hn hr (lost := lost) mm (i + 1) (by omega)
    rw [(outT_succ hz).1, (outT_succ hz).2, e1, e2] at ih
    exact .inr ⟨fun e => hz ((sn_zero _).1 e), by omega, _, rfl, by simp, _, rfl, ih⟩
  ·exact .inr ⟨hg, out_l2 hn hr mm (i + 1) (by omega) (by rw [outI_succ, if_pos hg0, h0])⟩
end
end Go.Proofs.YtjcdkemnflmfiaaGreatA
namespace Go.Proofs.YtjcdkemnflmfiaaGreatA
open Go Go.Proofs
section
variable {a : ByteArray} {N : List NodeT} {L : List LinkT} {R : List RuleT}
theorem step_bad {k : Int} (h : k < 0 ∨ (R.length : Int) ≤ k) : step_Of_R a N L R k [] [] false [] [] 9 := by
 by_cases h0 : k < 0
 ·exact step_Of_go (.inl ⟨h0, rfl, rfl, rfl, rfl, rfl, rfl⟩)
 ·exact step_Of_go (.inr ⟨h0, .inl ⟨by omega, rfl, rfl, rfl, rfl, rfl, rfl⟩⟩)
theorem step_drop {k : Nat} (hk : k < R.length) (hd : (R.getD k rdef).2.2.2.1 = true) : step_Of_R a N L R (k : Int) [] [] (ng ((0 : Rat)).num) (ab ((0 : Rat)).num) (lim ((0 : Rat)).den) 0 :=
 step_Of_go (.inr ⟨by omega, .inr ⟨by omega, by omega, by omega, (R.getD k rdef).1, (R.getD k rdef).2.1, (R.getD k rdef).2.2.1, (R.getD k rdef).2.2.2.1, (R.getD k rdef).2.2.2.2, rfl, .inl ⟨hd, _, _, _, rat_Of0, rfl, rfl, rfl, rfl, rfl, rfl⟩⟩⟩)
theorem step_none (hN : OkN N) (hL : OkL L) (hR : OkR R) {k : Nat} (hk : k < R.length) (hd : (R.getD k rdef).2.2.2.1 = false) (h : (names (R.getD k rdef).2.2.2.2).all (roadOk N L) = false) : step_Of_R a N L R (k : Int) [] [] false [] [] 9 := by
 have hg := (hR.2 _ (getD_mem' (d := rdef) hk)).2
 have h1 := hN.1
 have h2 := hL.1
 exact step_Of_go (.inr ⟨by omega, .inr ⟨by omega, by omega, by omega, (R.getD k rdef).1, (R.getD k rdef).2.1, (R.getD k rdef).2.2.1, (R.getD k rdef).2.2.2.1, (R.getD k rdef).2.2.2.2, rfl, .inr ⟨by rw [hd]; simp, _, _, _, _, links_no (by omega) (by omega) hg h, .inr ⟨by decide, rfl, rfl, rfl, rfl, rfl, rfl⟩⟩⟩⟩)
theorem step_arg (hN : OkN N) (hL : OkL L) (hR : OkR R) {k : Nat} (hk : k < R.length) (hd : (R.getD k rdef).2.2.2.1 = false) (h : (names (R.getD k rdef).2.2.2.2).all (roadOk N L) = true) {qs : List Rat} (hq : ((names (R.getD k rdef).2.2.2.2).map fun s => (lnk L s).2.2.2) = qs.map fQ) (hz : AZ 1 qs) (hl : qs.length = (names (R.getD k rdef).2.2.2.2).length)
  (hb : ¬ Rgt qs ∨ light (R.getD k rdef).2.2.2.2 = true) : step_Of_R a N L R (k : Int) [] [] false [] [] 2 := by
 have hg := (hR.2 _ (getD_mem' (d := rdef) hk)).2
 have h1 := hN.1
 have h2 := hL.1
 have h3 := names_len hg
 obtain ⟨a1, a2⟩ := fail_All_is hz (by omega)
 refine step_Of_go (.inr ⟨by omega, .inr ⟨by omega, by omega, by omega, (R.getD k rdef).1, (R.getD k rdef).2.1, (R.getD k rdef).2.2.1, (R.getD k rdef).2.2.2.1, (R.getD k rdef).2.2.2.2, rfl, .inr ⟨by rw [hd]; simp, _, _, _, _, links_ok (by omega) (by omega) hg h, .inl ⟨rfl, ?_⟩⟩⟩⟩)
 rw [hq]
 by_cases hR' : Rgt qs
 ·have hb' := hb.resolve_left (fun g => g hR')
  exact ⟨_, _, a1 hR', .inl ⟨rfl, _, light_is _ _ _ _ hg, .inl ⟨hb', rfl, rfl, rfl, rfl, rfl, rfl⟩⟩⟩
 ·exact ⟨_, _, a2 hR', .inr ⟨by decide, rfl, rfl, rfl, rfl, rfl, rfl⟩⟩
noncomputable abbrev wayF (N : List NodeT) (L : List LinkT) (gs : List (List Hop)) (cs : List (Nat × Rat)) : Int → Rat := allF (toI N L) (names gs) gs cs fun _ => 0
noncomputable abbrev wayL (gs : List (List Hop)) (cs : List (Nat × Rat)) : Rat := allL (names gs) gs cs 0
theorem pow5 {n : Nat} (h : n ≤ 5) : 2 ^ n ≤ 32 := Nat.pow_le_pow_right (by omega) h
theorem cases_ok {qs : List Rat} (hz : AZ 1 qs) (hl : qs.length ≤ 5) : ∀ c ∈ casesTo qs (2 ^ qs.length), c.1 < 18446744073709551616 ∧ SZ 16 c.2 := fun c hc => by
 have hp := pow5 hl
 obtain ⟨n, hn, rfl⟩ := List.mem_map.1 hc
 have := List.mem_range.1 (List.mem_filter.1 hn).1
 exact ⟨by show n < _; omega, (SZ.ch (n := n) hz SZ1).mono (by omega)⟩
theorem step_way (hN : OkN N) (hL : OkL L) (hR : OkR R) {k : Nat} (hk : k < R.length) (hd : (R.getD k rdef).2.2.2.1 = false) (h : (names (R.getD k rdef).2.2.2.2).all (roadOk N L) = true) {qs : List Rat} (hq : ((names (R.getD k rdef).2.2.2.2).map fun s => (lnk L s).2.2.2) = qs.map fQ) (hz : AZ 1 qs) (hl : qs.length = (names (R.getD k rdef).2.2.2.2).length)
  (hr : Rgt qs) (hw : light (R.getD k rdef).2.2.2.2 = false) (h5 : qs.length ≤ 5) :
  step_Of_R a N L R (k : Int) (outT (wayF N L (R.getD k rdef).2.2.2.2 (casesTo qs (2 ^ qs.length))) N.length) (outP (wayF N L (R.getD k rdef).2.2.2.2 (casesTo qs (2 ^ qs.length))) N.length) (ng (wayL (R.getD k rdef).2.2.2.2 (casesTo qs (2 ^ qs.length))).num) (ab (wayL (R.getD k rdef).2.2.2.2 (casesTo qs (2 ^ qs.length))).num) (lim (wayL (R.getD k rdef).2.2.2.2 (casesTo qs (2 ^ qs.length))).den) 0 := by
 have hg := (hR.2 _ (getD_mem' (d := rdef) hk)).2
 have h1 := hN.1
 have h2 := hL.1
 have hp := pow5 h5
 have hcl := casesTo_len qs (2 ^ qs.length)
 obtain ⟨a1, _⟩ := fail_All_is hz (by omega)
 refine step_Of_go (.inr ⟨by omega, .inr ⟨by omega, by omega, by omega, (R.getD k rdef).1, (R.getD k rdef).2.1, (R.getD k rdef).2.2.1, (R.getD k rdef).2.2.2.1, (R.getD k rdef).2.2.2.2, rfl, .inr ⟨by rw [hd]; simp, _, _, _, _, links_ok (by omega) (by omega) hg h, .inl ⟨rfl, ?_⟩⟩⟩⟩)
 rw [hq]
 refine ⟨_, _, a1 hr, .inl ⟨rfl, _, light_is _ _ _ _ hg, .inr ⟨by rw [hw]; simp, _, _, _, rat_Of0, ?_⟩⟩⟩
 rw [List.length_map]
 refine case_loop (t := toI N L) hg (good_light hg hw) (fun s hs => putAll_get N L s _ _ (.inl hs)) (w := 16) (by omega) (by omega) (cases_ok hz h5) (casesTo qs (2 ^ qs.length)).length 0 [] (fun _ => 0) 0 1 (by omega) .nil (fun _ => SZ0) SZ0 (by omega) fun m' hr' => ?_
 rw [List.drop_zero] at hr'
 rw [List.drop_zero]
 exact out_l2 (by omega) hr' N.length 0 (by omega) rfl
end
section
variable {a x : ByteArray} {N : List NodeT} {L : List LinkT} {R : List RuleT} {c e : Int} {d d4 : Bool} {gs : List (List Hop)} {NS : List ByteArray} {z0 : List T_ref08_Q} {z1 : Bool} {z2 z3 : List Int} {z5 : Int} {P0 : List T_ref08_Q} {l1 : Bool} {l2 l3 : List Int}
abbrev Err (z0 : List T_ref08_Q) (z1 : Bool) (z2 z3 : List Int) (z5 v : Int) : Prop := z0 = [] ∧ z1 = false ∧ z2 = [] ∧ z3 = [] ∧ z5 = v
variable {PT : List T_ref08_Q}
variable {n : Nat}
end
end Go.Proofs.YtjcdkemnflmfiaaGreatA
namespace Go.Proofs.YtjcdkemnflmfiaaGreatA
open Go Go.Proofs
end Go.Proofs.YtjcdkemnflmfiaaGreatA
namespace Go.Proofs.YtjcdkemnflmfiaaGreatA
open Go Go.Proofs
section
variable {a : ByteArray} {N : List NodeT} {L : List LinkT} {R : List RuleT}
theorem few_bad {k : Int} (h : k < 0 ∨ (R.length : Int) ≤ k) : law30_few_R a N L R k true := by
 by_cases h0 : k < 0
 ·exact law30_few_go (.inl ⟨h0, rfl⟩)
 ·exact law30_few_go (.inr ⟨h0, .inl ⟨by omega, rfl⟩⟩)
theorem few_is (hR : OkR R) {k : Nat} (hk : k < R.length) : law30_few_R a N L R (k : Int) (decide ((names (R.getD k rdef).2.2.2.2).length ≤ 5 ∨ 8 < (names (R.getD k rdef).2.2.2.2).length)) := by
 have hg := (hR.2 _ (getD_mem' (d := rdef) hk)).2
 refine law30_few_go (.inr ⟨by omega, .inr ⟨by omega, by omega, by omega, (R.getD k rdef).1, (R.getD k rdef).2.1, (R.getD k rdef).2.2.1, (R.getD k rdef).2.2.2.1, (R.getD k rdef).2.2.2.2, rfl, _, ref_Out_is _ _ _ _ hg, ?_⟩⟩)
 by_cases h : (names (R.getD k rdef).2.2.2.2).length ≤ 5
 ·exact .inl ⟨by omega, decide_eq_true (.inl h)⟩
 ·exact .inr ⟨by omega, (R.getD k rdef).1, (R.getD k rdef).2.1, (R.getD k rdef).2.2.1, (R.getD k rdef).2.2.2.1, (R.getD k rdef).2.2.2.2, rfl, _, ref_Out_is _ _ _ _ hg, decide_eq_decide.2 (by omega)⟩
end
theorem outT_len (f : Int → Rat) (n : Nat) : (outT f n).length = (outI f n).length ∧ (outP f n).length = (outI f n).length := ⟨List.length_map _, List.length_map _⟩
end Go.Proofs.YtjcdkemnflmfiaaGreatA
namespace Go.Proofs.YtjcdkemnflmfiaaGreatA
open Go Go.Proofs
namespace Ex
abbrev q : Rat := Rat.divInt 1 3
abbrev x : ByteArray := ⟨#[120]⟩
abbrev k : ByteArray := ⟨#[107]⟩
abbrev N : List NodeT := [(x, [])]
abbrev L : List LinkT := [(k, x, x, ng q.num, ab q.num, lim q.den)]
abbrev gs : List (List Hop) := [[(k, 1)]]
abbrev R : List RuleT := [(x, 0, 0, false, gs)]
theorem hz : SZ 1 q := SZ.divInt (by omega) (lim_len_one (by decide)) (lim_len_one (by decide))
theorem hnames : names gs = [k] := by simp [names, outs, addN]
theorem hcs : casesTo [q] (2 ^ [q].length) = [(0, q), (1, 1 - q)] := by decide +kernel
theorem hgood : GoodGs gs := ⟨by decide, fun g hg => by
 rw [List.mem_singleton.1 hg]
 refine ⟨by decide, fun h hh => ?_⟩
 rw [List.mem_singleton.1 hh]; exact ⟨by decide, by decide⟩⟩
theorem way : step_Of_R ⟨#[]⟩ N L R 0 [0] [fQ (1 - q)] (ng q.num) (ab q.num) (lim q.den) 0 := by
 have h := step_way (a := ⟨#[]⟩) (N := N) (L := L) (R := R) (k := 0) ⟨by decide, fun n hn => by rw [List.mem_singleton.1 hn]; exact ⟨by decide, fun p hp => by cases hp⟩⟩ ⟨by decide, fun l hl => by rw [List.mem_singleton.1 hl]; exact ⟨q, rfl, hz⟩⟩
  ⟨by decide, fun r hr => by rw [List.mem_singleton.1 hr]; exact ⟨⟨by decide, by decide⟩, hgood⟩⟩ (by decide) rfl (by show (names gs).all _ = true; rw [hnames]; decide +kernel) (qs := [q]) (by show (names gs).map _ = _; rw [hnames]; rfl) (fun p hp => by rw [List.mem_singleton.1 hp]; exact hz) (by show _ = (names gs).length; rw [hnames]; rfl)
  (by
   refine ⟨by simp, fun p hp => ?_⟩
   rw [List.mem_singleton.1 hp]; decide +kernel) (by decide) (by simp)
 have hcs := hcs
 rw [hcs] at h
 have e1 : wayF N L gs [(0, q), (1, 1 - q)] 0 = 1 - q := by
  show allF (toI N L) (names gs) gs _ _ 0 = _
  rw [hnames]; decide +kernel
 have e2 : wayL gs [(0, q), (1, 1 - q)] = q := by
  show allL (names gs) gs _ _ = _
  rw [hnames]; decide +kernel
 have h' : step_Of_R ⟨#[]⟩ N L R 0 (outT (wayF N L gs [(0, q), (1, 1 - q)]) 1) (outP (wayF N L gs [(0, q), (1, 1 - q)]) 1) (ng (wayL gs [(0, q), (1, 1 - q)]).num) (ab (wayL gs [(0, q), (1, 1 - q)]).num) (lim (wayL gs [(0, q), (1, 1 - q)]).den) 0 := h
 rw [e2] at h'
 have hne : ¬ wayF N L gs [(0, q), (1, 1 - q)] ((0 : Nat) : Int) = 0 := by
  rw [Int.natCast_zero, e1]; decide +kernel
 obtain ⟨t1, t2⟩ := outT_succ hne
 rw [t1, t2, Int.natCast_zero, e1] at h'
 exact h'
end Ex
theorem law30_works_is : law30_works_R true := by
 have s1 := rat_Same_is (Ex.hz.mono (show 1 ≤ 10000 by omega)) (Ex.hz.mono (show 1 ≤ 10000 by omega))
 have s2 := rat_Same_is (Ex.hz.not.mono (show 3 ≤ 10000 by omega)) (Ex.hz.not.mono (show 3 ≤ 10000 by omega))
 rw [decide_eq_true rfl] at s1 s2
 exact law30_works_go ⟨_, _, _, _, rat_Frac_is (n := 1) (d := 3) (by omega) (by omega) (by omega) (by omega) (by omega), _, _, _, _, _, _, Ex.way, .inl ⟨rfl, .inl ⟨rfl, by decide, .inl ⟨rfl, by simp, _, _, _, rfl, _, _, _, fold_Not_is (Ex.hz.mono (by omega)), _, s2, .inl ⟨rfl, _, s1, rfl⟩⟩⟩⟩⟩
end Go.Proofs.YtjcdkemnflmfiaaGreatA
namespace Go.Proofs.YtjcdkemnflmfiaaGreatA
open Go Go.Proofs
def rsum (f : Nat → Rat) : Nat → Rat
 | 0 => 0
 | n + 1 => rsum f n + f n
theorem rsum_congr {f g : Nat → Rat} : ∀ n : Nat, (∀ k, k < n → f k = g k) → rsum f n = rsum g n
 | 0, _ => rfl
 | n + 1, h => by rw [rsum, rsum, rsum_congr n (fun k hk => h k (by omega)), h n (by omega)]
theorem rsum_double (f : Nat → Rat) : ∀ m : Nat, rsum f (2 * m) = rsum (fun k => f (2 * k)) m + rsum (fun k => f (2 * k + 1)) m
 | 0 => by simp only [Nat.mul_zero, rsum]; grind
 | m + 1 => by
  rw [show 2 * (m + 1) = 2 * m + 1 + 1 by omega, rsum, rsum, rsum_double f m, rsum, rsum]
  grind
theorem rsum_mul (s : Rat) (f : Nat → Rat) : ∀ m : Nat, rsum (fun k => s * f k) m = s * rsum f m
 | 0 => by simp only [rsum]; grind
 | m + 1 => by rw [rsum, rsum, rsum_mul s f m]; grind
theorem chQ_mul : ∀ (qs : List Rat) (s t : Rat) (n : Nat), chQ (s * t) qs n = s * chQ t qs n
 | [], s, t, n => rfl
 | q :: qs, s, t, n => by rw [chQ, chQ, Rat.mul_assoc, chQ_mul qs]
theorem chQ_one (qs : List Rat) (s : Rat) (n : Nat) : chQ s qs n = s * chQ 1 qs n := by
 have := chQ_mul qs s 1 n
 rwa [Rat.mul_one] at this
theorem ch_even (q : Rat) (qs : List Rat) (k : Nat) : chQ 1 (q :: qs) (2 * k) = q * chQ 1 qs k := by
 rw [chQ, if_neg (by omega), Nat.mul_div_cancel_left _ (by omega), Rat.one_mul, chQ_one]
theorem ch_odd (q : Rat) (qs : List Rat) (k : Nat) : chQ 1 (q :: qs) (2 * k + 1) = (1 - q) * chQ 1 qs k := by
 rw [chQ, if_pos (by omega), show (2 * k + 1) / 2 = k by omega, Rat.one_mul, chQ_one]
theorem whole_sum : ∀ qs : List Rat, rsum (chQ 1 qs) (2 ^ qs.length) = 1
 | [] => by simp only [List.length_nil, Nat.pow_zero, rsum, chQ]; grind
 | q :: qs => by
  rw [List.length_cons, Nat.pow_succ, Nat.mul_comm, rsum_double]
  rw [rsum_congr (g := fun k => q * chQ 1 qs k) _ (fun k _ => ch_even q qs k), rsum_congr (f := fun k => chQ 1 (q :: qs) (2 * k + 1)) (g := fun k => (1 - q) * chQ 1 qs k) _ (fun k _ => ch_odd q qs k), rsum_mul, rsum_mul, whole_sum qs]
  grind
def tot : List (Nat × Rat) → Rat
 | [] => 0
 | c :: cs => c.2 + tot cs
theorem tot_snoc (c : Nat × Rat) : ∀ cs : List (Nat × Rat), tot (cs ++ [c]) = tot cs + c.2
 | [] => by simp only [List.nil_append, tot]; grind
 | d :: cs => by simp only [List.cons_append, tot, tot_snoc c cs]; grind
theorem tot_cases (qs : List Rat) : ∀ k : Nat, tot (casesTo qs k) = rsum (chQ 1 qs) k
 | 0 => rfl
 | k + 1 => by
  rw [casesTo_succ, rsum, ← tot_cases qs k]
  split
  ·rename_i h; rw [h]; grind
  ·rw [tot_snoc]
abbrev rsF (f : Int → Rat) (n : Nat) : Rat := rsum (fun k : Nat => f (k : Int)) n
theorem rsF_addF (x : Rat) (f : Int → Rat) (t : Nat) : ∀ n : Nat, t < n → rsF (addF (t : Int) x f) n = rsF f n + x
 | n + 1, h => by
  show rsum _ n + addF (t : Int) x f ((n : Nat) : Int) = rsum _ n + f ((n : Nat) : Int) + x
  by_cases e : t = n
  ·subst e
   rw [addF_at, rsum_congr (g := fun k : Nat => f (k : Int)) t (fun k hk => addF_ne (by omega) x f)]
   grind
  ·have ih := rsF_addF x f t n (by omega)
   unfold rsF at ih
   rw [ih, addF_ne (by omega)]
   grind
theorem caseF_sum {t : ByteArray → Int} {n : Nat} (p S : Rat) : ∀ (l : List Hop) (f : Int → Rat), (∀ h ∈ l, ∃ k : Nat, t h.1 = (k : Int) ∧ k < n) → rsF (caseF t p S l f) n = rsF f n + p * (((isum (ws l) : Int) : Rat) / S)
 | [], f, _ => by
  have e : isum (ws []) = 0 := rfl
  have e2 : caseF t p S [] f = f := rfl
  rw [e, e2, Rat.intCast_zero, Rat.div_def, Rat.zero_mul, Rat.mul_zero, Rat.add_zero]
 | h :: l, f, ht => by
  have e : ws (h :: l) = h.2 :: ws l := rfl
  have e2 : caseF t p S (h :: l) f = caseF t p S l (addF (t h.1) (p * (((h.2 : Int) : Rat) / S)) f) := rfl
  obtain ⟨k, hk, hkn⟩ := ht h (List.mem_cons_self ..)
  rw [e2, caseF_sum p S l _ (fun x hx => ht x (List.mem_cons_of_mem _ hx)), hk, rsF_addF _ _ _ _ hkn, e, isum_cons, Rat.intCast_add]
  simp only [Rat.div_def]
  grind
theorem step_sum {t : ByteArray → Int} {NS : List ByteArray} {gs : List (List Hop)} (hw : ∀ g ∈ gs, GoodW g) {n : Nat} (ht : ∀ g ∈ gs, ∀ h ∈ g, ∃ k : Nat, t h.1 = (k : Int) ∧ k < n) (c : Nat) (p x : Rat) (f : Int → Rat) :
  rsF (stepF t NS gs c p f) n + stepL NS gs c p x = rsF f n + x + p := by
 by_cases h0 : hopsB NS gs c = []
 ·have q1 : stepF t NS gs c p f = f := by unfold stepF; rw [h0]; rfl
  have q2 : stepL NS gs c p x = x + p := by unfold stepL; rw [h0]; rfl
  rw [q1, q2]; grind
 ·have q2 : stepL NS gs c p x = x := if_neg fun e => h0 (List.isEmpty_iff.1 e)
  rw [q2, stepF, caseF_sum _ _ _ _ (fun h hh => by
   obtain ⟨g, hg, hhg⟩ := hopsB_mem hh
   exact ht g hg h hhg), Rat.div_def, Rat.mul_inv_cancel _ (S_ne (hopsB_good hw c) h0)]
  grind
theorem all_sum {t : ByteArray → Int} {NS : List ByteArray} {gs : List (List Hop)} (hw : ∀ g ∈ gs, GoodW g) {n : Nat} (ht : ∀ g ∈ gs, ∀ h ∈ g, ∃ k : Nat, t h.1 = (k : Int) ∧ k < n) : ∀ (cs : List (Nat × Rat)) (x : Rat) (f : Int → Rat),
  rsF (allF t NS gs cs f) n + allL NS gs cs x = rsF f n + x + tot cs
 | [], x, f => (Rat.add_zero _).symm
 | c :: cs, x, f => by
  have h1 := all_sum hw ht (NS := NS) cs (stepL NS gs c.1 c.2 x) (stepF t NS gs c.1 c.2 f)
  have h2 := step_sum hw ht (NS := NS) c.1 c.2 x f
  have e1 : allF t NS gs (c :: cs) f = allF t NS gs cs (stepF t NS gs c.1 c.2 f) := rfl
  have e2 : allL NS gs (c :: cs) x = allL NS gs cs (stepL NS gs c.1 c.2 x) := rfl
  rw [e1, e2, h1, h2, tot]
  grind
def NN (f : Int → Rat) : Prop := ∀ k, 0 ≤ f k
theorem NN.add {f : Int → Rat} (h : NN f) {x : Rat} (hx : 0 ≤ x) (k : Int) : NN (addF k x f) := fun j => by
 unfold addF
 split
 ·exact Rat.add_nonneg (h j) hx
 ·exact h j
theorem share_nn {w S : Int} {p : Rat} (hp : 0 ≤ p) (hw : 0 ≤ w) (hS : 0 ≤ S) : 0 ≤ p * ((w : Rat) / (S : Rat)) := by
 rw [← Rat.divInt_eq_div]
 exact Rat.mul_nonneg hp (Rat.divInt_nonneg hw hS)
theorem caseF_nn {t : ByteArray → Int} {p : Rat} (hp : 0 ≤ p) {S : Int} (hS : 0 ≤ S) : ∀ (l : List Hop) {f : Int → Rat}, (∀ h ∈ l, 1 ≤ h.2) → NN f → NN (caseF t p (S : Rat) l f)
 | [], f, _, hf => hf
 | h :: l, f, hl, hf => caseF_nn hp hS l (fun x hx => hl x (List.mem_cons_of_mem _ hx)) (hf.add (share_nn hp (by have := hl h (List.mem_cons_self ..); omega) hS) (t h.1))
theorem step_nn {t : ByteArray → Int} {NS : List ByteArray} {gs : List (List Hop)} (hw : ∀ g ∈ gs, GoodW g) {c : Nat} {p x : Rat} (hp : 0 ≤ p) {f : Int → Rat} (hf : NN f) (hx : 0 ≤ x) : NN (stepF t NS gs c p f) ∧ 0 ≤ stepL NS gs c p x := by
 have hg := hopsB_good (NS := NS) hw c
 have hi := (isum_ge hg.2).1
 refine ⟨caseF_nn hp (by omega) _ (fun h hh => (hg.2 h hh).1) hf, ?_⟩
 unfold stepL
 split
 ·exact Rat.add_nonneg hx hp
 ·exact hx
theorem all_nn {t : ByteArray → Int} {NS : List ByteArray} {gs : List (List Hop)} (hw : ∀ g ∈ gs, GoodW g) : ∀ (cs : List (Nat × Rat)) {x : Rat} {f : Int → Rat}, (∀ c ∈ cs, 0 ≤ c.2) → NN f → 0 ≤ x → NN (allF t NS gs cs f) ∧ 0 ≤ allL NS gs cs x
 | [], x, f, _, hf, hx => ⟨hf, hx⟩
 | c :: cs, x, f, hc, hf, hx => by
  obtain ⟨h1, h2⟩ := step_nn (t := t) (NS := NS) hw (c := c.1) (hc c (List.mem_cons_self ..)) hf hx
  exact all_nn hw cs (fun d hd => hc d (List.mem_cons_of_mem _ hd)) h1 h2
theorem ch_nn : ∀ {qs : List Rat} {s : Rat} {n : Nat}, (∀ q ∈ qs, Unit q) → 0 ≤ s → 0 ≤ chQ s qs n
 | [], s, n, _, hs => hs
 | q :: qs, s, n, h, hs => by
  obtain ⟨h1, h2⟩ := h q (List.mem_cons_self ..)
  rw [chQ]
  refine ch_nn (fun p hp => h p (List.mem_cons_of_mem _ hp)) (Rat.mul_nonneg hs ?_)
  split <;> grind
theorem rsum_nn {f : Nat → Rat} (h : ∀ k, 0 ≤ f k) : ∀ n : Nat, 0 ≤ rsum f n
 | 0 => Rat.le_refl
 | n + 1 => Rat.add_nonneg (rsum_nn h n) (h n)
theorem rsum_le {f : Nat → Rat} (h : ∀ k, 0 ≤ f k) {k : Nat} : ∀ n : Nat, k < n → f k ≤ rsum f n
 | n + 1, hk => by
  have h1 := rsum_nn h n
  have h2 := h n
  rw [rsum]
  by_cases e : k = n
  ·subst e; grind
  ·have := rsum_le h n (show k < n by omega)
   grind
def Over (M : Int) (q : Rat) : Prop := ∃ k : Int, q * (M : Rat) = (k : Rat)
theorem Over.add {M : Int} {p q : Rat} : Over M p → Over M q → Over M (p + q)
 | ⟨k, hk⟩, ⟨l, hl⟩ => ⟨k + l, by rw [Rat.add_mul, hk, hl, Rat.intCast_add]⟩
theorem Over.mul {M K : Int} {p q : Rat} : Over M p → Over K q → Over (M * K) (p * q)
 | ⟨k, hk⟩, ⟨l, hl⟩ => ⟨k * l, by rw [Rat.intCast_mul, Rat.intCast_mul, ← hk, ← hl]; grind⟩
theorem Over.int (n : Int) : Over 1 (n : Rat) := ⟨n, by rw [Rat.intCast_one, Rat.mul_one]⟩
theorem Over.more {M : Int} {p : Rat} (h : Over M p) (K : Int) : Over (M * K) p := by
 have := h.mul (K := K) (q := 1) ⟨K, by rw [Rat.one_mul]⟩
 rwa [Rat.mul_one] at this
theorem Over.zero (M : Int) : Over M 0 := ⟨0, by rw [Rat.zero_mul, Rat.intCast_zero]⟩
theorem Over.share {w S : Int} (hS : (S : Rat) ≠ 0) : Over S ((w : Rat) / (S : Rat)) := ⟨w, Rat.div_mul_cancel hS⟩
theorem Over.den (q : Rat) : Over (q.den : Int) q := ⟨q.num, by
 have h := Rat.num_divInt_den q
 rw [Rat.divInt_eq_div] at h
 have hn : (((q.den : Nat) : Int) : Rat) ≠ 0 := fun e => by have := Rat.intCast_eq_zero_iff.1 e; have := q.den_pos; omega
 have h2 := Rat.div_mul_cancel (a := ((q.num : Int) : Rat)) hn
 rw [h] at h2
 exact h2⟩
theorem Over.SZ {M : Int} {q : Rat} (h : Over M q) (hM : 0 < M) (h0 : 0 ≤ q) (h1 : q ≤ 1) {n : Nat} (hn : zl n M) : SZ n q := by
 obtain ⟨k, hk⟩ := h
 have hMR : (M : Rat) ≠ 0 := fun e => by have := Rat.intCast_eq_zero_iff.1 e; omega
 have hM0 : (0 : Rat) ≤ (M : Rat) := Rat.intCast_nonneg.2 (by omega)
 have e : q = Rat.divInt k M := by
  rw [Rat.divInt_eq_div, ← hk, Rat.mul_div_cancel hMR]
 have k0 : 0 ≤ k := Rat.intCast_nonneg.1 (by rw [← hk]; exact Rat.mul_nonneg h0 hM0)
 have k1 : k ≤ M := by
  have : (k : Rat) ≤ (M : Rat) := by
   rw [← hk]
   have := Rat.mul_le_mul_of_nonneg_right h1 hM0
   rwa [Rat.one_mul] at this
  exact Rat.intCast_le_intCast.1 this
 rw [e]
 refine SZ.divInt (by omega) ?_ hn
 exact Nat.le_trans (lim_len_mono (show k.natAbs ≤ M.natAbs by omega)) hn
def dens : List Rat → Int
 | [] => 1
 | q :: qs => (q.den : Int) * dens qs
theorem dens_pos : ∀ qs : List Rat, 0 < dens qs
 | [] => by decide
 | q :: qs => Int.mul_pos (by have := q.den_pos; omega) (dens_pos qs)
theorem dens_zl : ∀ {qs : List Rat}, AZ 1 qs → zl (1 + qs.length) (dens qs)
 | [], _ => (zl.nat (d := 1) (lim_len_one (by decide)))
 | q :: qs, h => ((zl.nat (h q (List.mem_cons_self ..)).2).mul (dens_zl fun p hp => h p (List.mem_cons_of_mem _ hp))).mono (by rw [List.length_cons]; omega)
theorem ch_over : ∀ (qs : List Rat) {s : Rat} {D : Int} {n : Nat}, Over D s → Over (D * dens qs) (chQ s qs n)
 | [], s, D, n, h => by rw [dens, Int.mul_one]; exact h
 | q :: qs, s, D, n, h => by
  rw [chQ, dens, ← Int.mul_assoc]
  refine ch_over qs (h.mul ?_)
  split
  ·obtain ⟨k, hk⟩ := Over.den q
   refine ⟨(q.den : Int) - k, ?_⟩
   rw [Rat.intCast_sub, ← hk]; grind
  ·exact .den q
def sOf (NS : List ByteArray) (gs : List (List Hop)) (n : Nat) : Int := if hopsB NS gs n = [] then 1 else isum (ws (hopsB NS gs n))
noncomputable def sums (NS : List ByteArray) (gs : List (List Hop)) : List (Nat × Rat) → Int
 | [] => 1
 | c :: cs => sOf NS gs c.1 * sums NS gs cs
theorem sOf_pos {NS : List ByteArray} {gs : List (List Hop)} (hw : ∀ g ∈ gs, GoodW g) (n : Nat) : 0 < sOf NS gs n ∧ zl 2 (sOf NS gs n) := by
 have hg := hopsB_good (NS := NS) hw n
 obtain ⟨h1, h2⟩ := isum_ge hg.2
 have h5 := hg.1
 unfold sOf
 split
 ·exact ⟨by decide, (zl.nat (d := 1) (lim_len_one (by decide))).mono (by decide)⟩
 ·rename_i h
  have := List.length_pos_iff.2 h
  exact ⟨by omega, zl_word (by omega) (by omega)⟩
theorem sums_pos {NS : List ByteArray} {gs : List (List Hop)} (hw : ∀ g ∈ gs, GoodW g) : ∀ cs : List (Nat × Rat), 0 < sums NS gs cs ∧ zl (1 + cs.length * 2) (sums NS gs cs)
 | [] => ⟨Int.zero_lt_one, (zl.nat (d := 1) (lim_len_one (by decide)))⟩
 | c :: cs => by
  obtain ⟨h1, h2⟩ := sOf_pos (NS := NS) hw c.1
  obtain ⟨h3, h4⟩ := sums_pos (NS := NS) hw cs
  exact ⟨Int.mul_pos h1 h3, (h2.mul h4).mono (by rw [List.length_cons]; omega)⟩
theorem caseF_over {t : ByteArray → Int} {p : Rat} {D S A : Int} (hp : Over D p) (hS : (S : Rat) ≠ 0) : ∀ (l : List Hop) {f : Int → Rat}, (∀ k, Over (D * S * A) (f k)) → ∀ k, Over (D * S * A) (caseF t p (S : Rat) l f k)
 | [], f, hf => hf
 | h :: l, f, hf => caseF_over hp hS l fun k => by
  show Over _ (if k = t h.1 then f k + p * ((h.2 : Rat) / (S : Rat)) else f k)
  split
  ·exact (hf k).add ((hp.mul (.share hS)).more A)
  ·exact hf k
theorem step_over {t : ByteArray → Int} {NS : List ByteArray} {gs : List (List Hop)} (hw : ∀ g ∈ gs, GoodW g) {c : Nat} {p x : Rat} {D A : Int} (hp : Over D p) {f : Int → Rat} (hf : ∀ k, Over (D * A) (f k)) (hx : Over (D * A) x) :
  (∀ k, Over (D * (A * sOf NS gs c)) (stepF t NS gs c p f k)) ∧ Over (D * (A * sOf NS gs c)) (stepL NS gs c p x) := by
 constructor
 ·intro k
  by_cases h0 : hopsB NS gs c = []
  ·have q1 : stepF t NS gs c p f = f := by unfold stepF; rw [h0]; rfl
   rw [q1, ← Int.mul_assoc]; exact (hf k).more _
  ·have e : sOf NS gs c = isum (ws (hopsB NS gs c)) := if_neg h0
   have e2 : D * (A * sOf NS gs c) = D * isum (ws (hopsB NS gs c)) * A := by rw [e, Int.mul_comm A, Int.mul_assoc]
   rw [e2]
   refine caseF_over hp (S_ne (hopsB_good hw c) h0) _ (fun k => ?_) k
   rw [← e2, ← Int.mul_assoc]; exact (hf k).more _
 ·rw [← Int.mul_assoc]
  unfold stepL
  split
  ·exact (hx.add (hp.more A)).more _
  ·exact hx.more _
theorem all_over {t : ByteArray → Int} {NS : List ByteArray} {gs : List (List Hop)} (hw : ∀ g ∈ gs, GoodW g) {D : Int} : ∀ (cs : List (Nat × Rat)) {x : Rat} {f : Int → Rat} {A : Int}, (∀ c ∈ cs, Over D c.2) → (∀ k, Over (D * A) (f k)) → Over (D * A) x →
  (∀ k, Over (D * (A * sums NS gs cs)) (allF t NS gs cs f k)) ∧ Over (D * (A * sums NS gs cs)) (allL NS gs cs x)
 | [], x, f, A, _, hf, hx => by
  rw [sums, Int.mul_one]; exact ⟨hf, hx⟩
 | c :: cs, x, f, A, hc, hf, hx => by
  obtain ⟨h1, h2⟩ := step_over (t := t) (NS := NS) hw (c := c.1) (hc c (List.mem_cons_self ..)) hf hx
  rw [sums, ← Int.mul_assoc A]
  exact all_over hw cs (fun d hd => hc d (List.mem_cons_of_mem _ hd)) h1 h2
end Go.Proofs.YtjcdkemnflmfiaaGreatA
