/- The law of lean's parts: its function answers true, whatever the input. -/
import Derived.Test.YtfijdkdpcjfiaaaGreatP45
import Derived.Test.YtfijdkdpcjfiaaaGreatP18
import Derived.Test.YtfijdkdpcjfiaaaGreatWlaw30One
import Derived.Test.YtfijdkdpcjfiaaaGreatWcon
import Derived.Test.YtfijdkdpcjfiaaaGreatWlaw45LeanParts
set_option linter.unusedVariables false
set_option linter.unusedSimpArgs false
set_option maxRecDepth 100000
namespace Go.Proofs.YtfijdkdpcjfiaaaGreatA
open Go Go.Proofs
abbrev LinkT := ByteArray × ByteArray × ByteArray × Bool × List Int × List Int
abbrev NodeT := ByteArray × List (Int × Int)
abbrev NetT := ByteArray × List NodeT × List LinkT × List RuleT
def RawL (l : LinkT) : Prop := ((∀ x ∈ l.2.2.2.2.1, 0 ≤ x) ∧ l.2.2.2.2.1.length ≤ 9223372036854775807) ∧ (∀ x ∈ l.2.2.2.2.2, 0 ≤ x) ∧ l.2.2.2.2.2.length ≤ 9223372036854775807
def RawN (n : NetT) : Prop := (∀ l ∈ n.2.2.1, RawL l) ∧ ∀ r ∈ n.2.2.2, Ad32 r.2.1
def OkRules (R : List RuleT) : Prop := R.length ≤ 8 ∧ ∀ r ∈ R, Ad32 r.2.1
def OkNets (z : List NetT) : Prop := ∀ n ∈ z, OkRules n.2.2.2
theorem mem_getD {α : Type} {l : List α} {i : Nat} {d : α} (h : i < l.length) : l.getD i d ∈ l := by
 rw [List.getD_eq_getElem?_getD, List.getElem?_eq_getElem h]; exact List.getElem_mem h
theorem take_small {α : Type} (l : List α) (w : Int) (h : w ≤ 3) : ((l.take w.toNat).length + 192) * (16 + 1) ≤ 70368744177664 := by rw [List.length_take]; omega
theorem mn3 (n : Nat) : 0 ≤ mn (n : Int) 3 ∧ mn (n : Int) 3 ≤ (n : Int) ∧ mn (n : Int) 3 ≤ 3 := by unfold mn; split <;> omega
section
variable {x0 : List NetT} {i : Nat} {nm c : ByteArray} {ns nodes : List NodeT} {ls links : List LinkT} {rs : List RuleT} {acc : List NetT}
theorem cl3 (hacc : acc.length ≤ 3) (hrs : ∀ r ∈ rs, Ad32 r.2.1) (next : ∀ R, OkRules R → ∃ z, ref22_Clean_l0 x0 (wi ((i : Int) + 1)) (acc ++ [(c, nodes, links, R)]) z ∧ OkNets z) :
  ∀ (m k : Nat) (R : List RuleT), k + m = 8 → R.length ≤ k → (∀ r ∈ R, Ad32 r.2.1) → ∃ z, ref22_Clean_l3 x0 (i : Int) (k : Int) nm ns ls rs c nodes links R acc z ∧ OkNets z
 | 0, k, R, hk, hl, hR => by
  obtain ⟨z, h1, h2⟩ := next R ⟨by omega, hR⟩
  by_cases h : k < rs.length
  ·exact ⟨z, ref22_Clean_l3_go (.inl ⟨by omega, .inr ⟨by omega, by omega, _, rfl, h1⟩⟩), h2⟩
  ·exact ⟨z, ref22_Clean_l3_go (.inr ⟨by omega, by omega, _, rfl, h1⟩), h2⟩
 | m + 1, k, R, hk, hl, hR => by
  by_cases h : k < rs.length
  ·obtain ⟨gz, g1, g2⟩ := clean_go (rs.getD k rdef).1 (rs.getD k rdef).2.1 (rs.getD k rdef).2.2.1 (rs.getD k rdef).2.2.2.1 (rs.getD k rdef).2.2.2.2
   obtain ⟨z, h1, h2⟩ := cl3 hacc hrs next m (k + 1) (R ++ [(short20 (rs.getD k rdef).1, (rs.getD k rdef).2.1, (rs.getD k rdef).2.2.1, (rs.getD k rdef).2.2.2.1, gz)]) (by omega) (by rw [List.length_append]; simp; omega) (fun r hr => by
    rcases List.mem_append.1 hr with hr | hr
    ·exact hR r hr
    ·rw [List.mem_singleton.1 hr]; exact hrs (rs.getD k rdef) (mem_getD h))
   refine ⟨z, ref22_Clean_l3_go (.inl ⟨by omega, .inl ⟨by omega, by omega, (rs.getD k rdef).1, (rs.getD k rdef).2.1, (rs.getD k rdef).2.2.1, (rs.getD k rdef).2.2.2.1, (rs.getD k rdef).2.2.2.2, rfl, _, _, _, _, _, g1, by omega, _, rfl, ?_⟩⟩), h2⟩
   rw [w_succ (by omega)]; exact h1
  ·obtain ⟨z, h1, h2⟩ := next R ⟨by omega, hR⟩
   exact ⟨z, ref22_Clean_l3_go (.inr ⟨by omega, by omega, _, rfl, h1⟩), h2⟩
abbrev ldef : LinkT := (ByteArray.empty, ByteArray.empty, ByteArray.empty, false, [], [])
theorem cl2 (hls : ∀ l ∈ ls, RawL l) (next : ∀ L, ∃ z, ref22_Clean_l3 x0 (i : Int) 0 nm ns ls rs c nodes L [] acc z ∧ OkNets z) :
  ∀ (m k : Nat) (L : List LinkT), k + m = 8 → L.length ≤ k → ∃ z, ref22_Clean_l2 x0 (i : Int) (k : Int) nm ns ls rs c nodes L acc z ∧ OkNets z
 | 0, k, L, hk, hl => by
  obtain ⟨z, h1, h2⟩ := next L
  by_cases h : k < ls.length
  ·exact ⟨z, ref22_Clean_l2_go (.inl ⟨by omega, .inr ⟨by omega, h1⟩⟩), h2⟩
  ·exact ⟨z, ref22_Clean_l2_go (.inr ⟨by omega, h1⟩), h2⟩
 | m + 1, k, L, hk, hl => by
  by_cases h : k < ls.length
  ·have hr := hls _ (mem_getD (d := ldef) h)
   obtain ⟨q, q1, q2⟩ := ref08_Clean_is (b := (ls.getD k ldef).2.2.2.1) hr.1.1 hr.2.1 (n := 1) (by omega) (by omega) hr.1.2 hr.2.2
   obtain ⟨z, h1, h2⟩ := cl2 hls next m (k + 1) (L ++ [(short20 (ls.getD k ldef).1, short20 (ls.getD k ldef).2.1, short20 (ls.getD k ldef).2.2.1, ng q.num, ab q.num, lim q.den)]) (by omega) (by rw [List.length_append]; simp; omega)
   refine ⟨z, ref22_Clean_l2_go (.inl ⟨by omega, .inl ⟨by omega, by omega, (ls.getD k ldef).1, (ls.getD k ldef).2.1, (ls.getD k ldef).2.2.1, (ls.getD k ldef).2.2.2.1, (ls.getD k ldef).2.2.2.2.1, (ls.getD k ldef).2.2.2.2.2, rfl, _, short_go _, _, short_go _, _, short_go _, _, _, _, q1, by omega, _, rfl, ?_⟩⟩), h2⟩
   rw [w_succ (by omega)]; exact h1
  ·obtain ⟨z, h1, h2⟩ := next L
   exact ⟨z, ref22_Clean_l2_go (.inr ⟨by omega, h1⟩), h2⟩
theorem cl1 (next : ∀ N, ∃ z, ref22_Clean_l2 x0 (i : Int) 0 nm ns ls rs c N [] acc z ∧ OkNets z) :
  ∀ (m k : Nat) (N : List NodeT), k + m = 5 → N.length ≤ k → ∃ z, ref22_Clean_l1 x0 (i : Int) (k : Int) nm ns ls rs c N acc z ∧ OkNets z
 | 0, k, N, hk, hl => by
  obtain ⟨z, h1, h2⟩ := next N
  by_cases h : k < ns.length
  ·exact ⟨z, ref22_Clean_l1_go (.inl ⟨by omega, .inr ⟨by omega, h1⟩⟩), h2⟩
  ·exact ⟨z, ref22_Clean_l1_go (.inr ⟨by omega, h1⟩), h2⟩
 | m + 1, k, N, hk, hl => by
  by_cases h : k < ns.length
  ·have f1 : (k : Int) < (ns.length : Int) := by omega
   have f2 : (k : Int) < 5 := by omega
   have f3 : 0 ≤ (k : Int) := by omega
   have hN : (N.length + 1 + 192) * (40 + 1) ≤ 70368744177664 := by omega
   have hw : wi ((k : Int) + 1) = ((k + 1 : Nat) : Int) := w_succ (by omega)
   have hl1 : ∀ x : NodeT, (N ++ [x]).length ≤ k + 1 := fun x => by rw [List.length_append, List.length_singleton]; omega
   have hk1 : k + 1 + m = 5 := by omega
   have get : ns.getD (k : Int).toNat (ByteArray.empty, []) = ((ns.getD k (ByteArray.empty, [])).1, (ns.getD k (ByteArray.empty, [])).2) := rfl
   generalize ns.getD k (ByteArray.empty, []) = nd at get
   obtain ⟨e0, e1, e2⟩ := mn3 nd.2.length
   have hb := take_small nd.2 _ e2
   obtain ⟨z, h1, h2⟩ := cl1 next m (k + 1) (N ++ [(short20 nd.1, nd.2.take (mn (nd.2.length : Int) 3).toNat)]) hk1 (hl1 _)
   have h1' : ref22_Clean_l1 x0 (i : Int) (wi ((k : Int) + 1)) nm ns ls rs c (N ++ [(short20 nd.1, nd.2.take (mn (nd.2.length : Int) 3).toNat)]) acc z := by rw [hw]; exact h1
   exact ⟨z, ref22_Clean_l1_go (.inl ⟨f1, .inl ⟨f2, f3, nd.1, nd.2, get, short20 nd.1, short_go nd.1, nd.1, nd.2, get, nd.1, nd.2, get, e0, e1, hb, _, rfl, hN, _, rfl, h1'⟩⟩), h2⟩
  ·obtain ⟨z, h1, h2⟩ := next N
   exact ⟨z, ref22_Clean_l1_go (.inr ⟨by omega, h1⟩), h2⟩
end
theorem cl0 {x0 : List NetT} (hx : ∀ n ∈ x0, RawN n) : ∀ (m i : Nat) (acc : List NetT), i + m = 3 → acc.length ≤ i → OkNets acc → ∃ z, ref22_Clean_l0 x0 (i : Int) acc z ∧ OkNets z
 | 0, i, acc, hi, hl, ha => by
  by_cases h : i < x0.length
  ·exact ⟨acc, ref22_Clean_l0_go (.inl ⟨by omega, .inr ⟨by omega, rfl⟩⟩), ha⟩
  ·exact ⟨acc, ref22_Clean_l0_go (.inr ⟨by omega, rfl⟩), ha⟩
 | m + 1, i, acc, hi, hl, ha => by
  by_cases h : i < x0.length
  ·have hr := hx _ (mem_getD (d := ((ByteArray.empty, [], [], []) : NetT)) h)
   obtain ⟨z, h1, h2⟩ := cl1 (x0 := x0) (i := i) (nm := (x0.getD i (ByteArray.empty, [], [], [])).1) (ns := (x0.getD i (ByteArray.empty, [], [], [])).2.1) (ls := (x0.getD i (ByteArray.empty, [], [], [])).2.2.1) (rs := (x0.getD i (ByteArray.empty, [], [], [])).2.2.2) (c := short20 (x0.getD i (ByteArray.empty, [], [], [])).1) (acc := acc)
    (fun N => cl2 hr.1 (fun L => cl3 (by omega) hr.2 (fun R hR => by
     rw [w_succ (by omega)]
     refine cl0 hx m (i + 1) _ (by omega) (by rw [List.length_append]; simp; omega) fun n hn => ?_
     rcases List.mem_append.1 hn with hn | hn
     ·exact ha n hn
     ·rw [List.mem_singleton.1 hn]; exact hR) 8 0 [] (by omega) (by simp) (fun r hr => by cases hr)) 8 0 [] (by omega) (by simp)) 5 0 [] (by omega) (by simp)
   exact ⟨z, ref22_Clean_l0_go (.inl ⟨by omega, .inl ⟨by omega, by omega, (x0.getD i (ByteArray.empty, [], [], [])).1, (x0.getD i (ByteArray.empty, [], [], [])).2.1, (x0.getD i (ByteArray.empty, [], [], [])).2.2.1, (x0.getD i (ByteArray.empty, [], [], [])).2.2.2, rfl, _, short_go _, h1⟩⟩), h2⟩
  ·exact ⟨acc, ref22_Clean_l0_go (.inr ⟨by omega, rfl⟩), ha⟩
theorem one_go {x0 : List NetT} (hx : ∀ n ∈ x0, RawN n) : ∃ a N L R, law30_One_R x0 a N L R ∧ OkRules R := by
 obtain ⟨z, h1, h2⟩ := cl0 hx 3 0 [] (by omega) (by simp) (fun n hn => by cases hn)
 by_cases h : z.length = 0
 ·exact ⟨_, _, _, _, law30_One_go ⟨z, ref22_Clean_go h1, .inl ⟨by omega, rfl, rfl, rfl, rfl⟩⟩, by simp, fun r hr => by cases hr⟩
 ·have hm := h2 _ (mem_getD (d := ((ByteArray.empty, [], [], []) : NetT)) (show 0 < z.length by omega))
  exact ⟨(z.getD 0 (ByteArray.empty, [], [], [])).1, (z.getD 0 (ByteArray.empty, [], [], [])).2.1, (z.getD 0 (ByteArray.empty, [], [], [])).2.2.1, (z.getD 0 (ByteArray.empty, [], [], [])).2.2.2, law30_One_go ⟨z, ref22_Clean_go h1, .inr ⟨by omega, by omega, (z.getD 0 (ByteArray.empty, [], [], [])).1, (z.getD 0 (ByteArray.empty, [], [], [])).2.1, (z.getD 0 (ByteArray.empty, [], [], [])).2.2.1, (z.getD 0 (ByteArray.empty, [], [], [])).2.2.2, rfl, rfl, rfl, rfl, rfl⟩⟩, hm⟩
theorem law_LeanParts (x0 : List NetT) (x1 : Int) (a2 : ByteArray) (b2 c2 : Int) (d2 : Bool) (g2 : List (List Hop)) (a3 : ByteArray) (b3 c3 : Int) (d3 : Bool) (g3 : List (List Hop)) (p l : Int) (hx : ∀ n ∈ x0, RawN n) (hp : Ad32 p) : law45_LeanParts_R x0 x1 a2 b2 c2 d2 g2 a3 b3 c3 d3 g3 p l true := by
 obtain ⟨a, N, L, R, h1, h2⟩ := one_go hx
 obtain ⟨u, u1, u2⟩ := clean_go a2 b2 c2 d2 g2
 obtain ⟨v, v1, v2⟩ := clean_go a3 b3 c3 d3 g3
 obtain ⟨k, k0, k1, k2⟩ := cover_go h2.1 h2.2 a N L x1
 obtain ⟨y0, y1, z0, z1, t, t1, t2⟩ := half_go (l := l) hp
 have self : alikeB d2 d2 u u = true := by unfold alikeB; simp
 have al := alike_go (a1 := short20 a2) (a2 := short20 a3) (b1 := b2) (b2 := b3) (c1 := c2) (c2 := c3) (d1 := d2) (d2 := d3) u2 v2
 have al2 := ref_alike_go (a1 := short20 a2) (a2 := short20 a3) (b1 := b2) (b2 := b3) (c1 := c2) (c2 := c3) (d1 := d2) (d2 := d3) u2 v2
 have al3 := alike_go (a1 := short20 a2) (a2 := short20 a2) (b1 := b2) (b2 := b2) (c1 := c2) (c2 := c2) (d1 := d2) (d2 := d2) u2 u2
 rw [self] at al3
 refine law45_LeanParts_go ⟨_, _, _, _, h1, _, _, _, _, _, u1, _, _, _, _, _, v1, _, _, k2, _, k1, _, _, _, _, _, t1, _, _, _, _, _, t2, ?_⟩
 by_cases hk : 0 ≤ k
 ·refine .inl ⟨decide_eq_true hk, .inl ⟨hk, .inl ⟨rfl, _, al, _, al2, ?_⟩⟩⟩
  cases alikeB d2 d3 u v with
  | true =>
   refine .inl ⟨rfl, .inl ⟨rfl, _, al3, .inl ⟨rfl, .inl ⟨rfl, .inl ⟨rfl, .inl ⟨rfl, .inl ⟨rfl, ?_⟩⟩⟩⟩⟩⟩⟩
   cases t with
   | true => exact .inl ⟨rfl, .inl ⟨rfl, true, law45_works_is, rfl⟩⟩
   | false => exact .inr ⟨by simp, .inr ⟨by simp, true, law45_works_is, rfl⟩⟩
  | false =>
   refine .inr ⟨by simp, .inr ⟨by simp, _, al3, .inl ⟨rfl, .inl ⟨rfl, .inl ⟨rfl, .inl ⟨rfl, .inl ⟨rfl, ?_⟩⟩⟩⟩⟩⟩⟩
   cases t with
   | true => exact .inl ⟨rfl, .inl ⟨rfl, true, law45_works_is, rfl⟩⟩
   | false => exact .inr ⟨by simp, .inr ⟨by simp, true, law45_works_is, rfl⟩⟩
 ·refine .inr ⟨by rw [decide_eq_false hk]; simp, .inr ⟨hk, .inl ⟨rfl, _, al, _, al2, ?_⟩⟩⟩
  cases alikeB d2 d3 u v with
  | true =>
   refine .inl ⟨rfl, .inl ⟨rfl, _, al3, .inl ⟨rfl, .inl ⟨rfl, .inl ⟨rfl, .inl ⟨rfl, .inl ⟨rfl, ?_⟩⟩⟩⟩⟩⟩⟩
   cases t with
   | true => exact .inl ⟨rfl, .inl ⟨rfl, true, law45_works_is, rfl⟩⟩
   | false => exact .inr ⟨by simp, .inr ⟨by simp, true, law45_works_is, rfl⟩⟩
  | false =>
   refine .inr ⟨by simp, .inr ⟨by simp, _, al3, .inl ⟨rfl, .inl ⟨rfl, .inl ⟨rfl, .inl ⟨rfl, .inl ⟨rfl, ?_⟩⟩⟩⟩⟩⟩⟩
   cases t with
   | true => exact .inl ⟨rfl, .inl ⟨rfl, true, law45_works_is, rfl⟩⟩
   | false => exact .inr ⟨by simp, .inr ⟨by simp, true, law45_works_is, rfl⟩⟩
end Go.Proofs.YtfijdkdpcjfiaaaGreatA
