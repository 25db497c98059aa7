/- Regions whose order is drawn: every order comes to what the text's own order comes to. -/
import Derived.Test.YtcmajlphfnihgaaA20
set_option linter.unusedVariables false
set_option linter.unusedSimpArgs false
namespace Go.Proofs.YtcmajlphfnihgaaA
open Go

theorem far_listed {C : Cx} {ops : Array Oper} {p : Plan} {mk : Nat → Nat} (st : Static C ops p mk) {listed : Array Bool} (hc : ∀ (i : Nat) (o : Oper), ops[i]? = some o → listed.getD i false = true → ∀ e ∈ o.after, Region.binds .any e = true → listed.getD e.on false = true) :
    ∀ (n i : Nat) (o : Oper), i < n → ops[i]? = some o → (∀ e ∈ o.after, Region.binds .any e = true → listed.getD e.on false = true) → ∀ j, (mk i).testBit j = true → listed.getD j false = true := by
  intro n
  induction n with
  | zero => intro i o hi; omega
  | succ n ih =>
    intro i o hi ho he j hj
    obtain ⟨e, h1, h2, h3⟩ := st.far i o ho j hj
    have hle := he e h1 h2
    rcases h3 with rfl | h3
    · exact hle
    · have hlt := st.back i o ho e h1 h2
      have hsz : e.on < ops.size := by have := (Array.getElem?_eq_some_iff.1 ho).1; omega
      exact ih e.on _ (by omega) (Array.getElem?_eq_getElem hsz) (hc e.on _ (Array.getElem?_eq_getElem hsz) hle) j h3
def unl (listed : Array Bool) (n : Nat) : List Nat := (List.range n).filter fun i => listed.getD i true == false
theorem mem_unl {listed : Array Bool} {n i : Nat} : i ∈ unl listed n ↔ i < n ∧ listed.getD i true = false := by simp [unl]
theorem unl_sorted (listed : Array Bool) (n : Nat) : (unl listed n).Pairwise (· < ·) := List.Pairwise.filter _ (List.pairwise_lt_range)
theorem getD_tf {listed : Array Bool} {n j : Nat} (hs : listed.size = n) (hj : j < n) : listed.getD j true = listed.getD j false := by
  simp [Array.getD, show j < listed.size by omega]
theorem unl_set {listed : Array Bool} {n i : Nat} (hs : listed.size = n) {pre post : List Nat} (h : unl listed n = pre ++ i :: post) : unl (listed.setIfInBounds i true) n = pre ++ post := by
  have hsort := unl_sorted listed n
  rw [h] at hsort
  have hi : i < n ∧ listed.getD i true = false := mem_unl.1 (by rw [h]; simp)
  have e1 : unl (listed.setIfInBounds i true) n = (unl listed n).filter fun j => j != i := by
    unfold unl
    rw [List.filter_filter]
    apply List.filter_congr
    intro j hj
    rw [List.mem_range] at hj
    by_cases hji : j = i
    · subst hji
      simp [Array.getD, show j < listed.size by omega]
    · have : (listed.setIfInBounds i true).getD j true = listed.getD j true := getD_set_ne true (Ne.symm hji)
      rw [this]; simp [hji]
  rw [e1, h, List.filter_append, List.filter_cons]
  have hne : ∀ j ∈ pre, (j != i) = true := fun j hj => by
    have := (List.pairwise_append.1 hsort).2.2 j hj i (by simp)
    simp; omega
  have hne' : ∀ j ∈ post, (j != i) = true := fun j hj => by
    have := (List.pairwise_cons.1 (List.pairwise_append.1 hsort).2.1).1 j hj
    simp; omega
  rw [List.filter_eq_self.2 hne, List.filter_eq_self.2 hne']
  simp
theorem any_sound {C : Cx} {call : Run} (hc : CallOk C call) {base : Nat} {ops : Array Oper} {p : Plan} {mk : Nat → Nat} (st : Static C ops p mk) {Q : Exit → Act → World → Prop} : ∀ (fuel : Nat) (listed : Array Bool) (rem : List (Nat × Oper)), listed.size = ops.size → rem.map Prod.fst = unl listed ops.size →
    (∀ q ∈ rem, ops[q.1]? = some q.2) → rem.length = fuel → (∀ (i : Nat) (o : Oper), ops[i]? = some o → listed.getD i false = true → ∀ e ∈ o.after, Region.binds .any e = true → listed.getD e.on false = true) →
    ∀ {w : World} {S : Nat → Prop} {φ : Phi} {a : Act} {s s' : St}, ARel w S φ a s → (∀ q ∈ rem, Waits C base s.heap q.2) → runN C call base ops p rem s = some s' → (∀ a' w' S' φ', ARel w' S' φ' a' s' → Ext w S φ s.heap w' S' φ' s'.heap → Q .normal a' w') →
    wpAny C.P .any ops Q fuel listed a w := by
  intro fuel
  induction fuel with
  | zero =>
    intro listed rem hs hr ho hf hcl w S φ a s s' r hw e hQ
    have : rem = [] := List.length_eq_zero_iff.1 hf
    subst this
    cases e
    refine ⟨?_, hQ a w S φ r (.refl ..)⟩
    rw [List.eq_nil_iff_forall_not_mem]
    intro j hj
    obtain ⟨h1, o, h2, _⟩ := mem_ready.1 hj
    have : j ∈ unl listed ops.size := mem_unl.2 ⟨(Array.getElem?_eq_some_iff.1 h2).1, h1⟩
    rw [← hr] at this
    simp at this
  | succ fuel ih =>
    intro listed rem hs hr ho hf hcl w S φ a s s' r hw e hQ
    have hsort := unl_sorted listed ops.size
    rw [← hr] at hsort
    refine ⟨fun hnil => ?_, fun i hi => ?_⟩
    · exfalso
      cases rem with
      | nil => simp at hf
      | cons q rem =>
        have hq := ho q (by simp)
        have hqu : q.1 ∈ unl listed ops.size := by rw [← hr]; simp
        have : q.1 ∈ Region.ready .any ops listed := mem_ready.2 ⟨(mem_unl.1 hqu).2, q.2, hq, fun e he hb => by
          have hlt := st.back q.1 q.2 hq e he hb
          have hqn := (mem_unl.1 hqu).1
          rw [← getD_tf hs (show e.on < ops.size by omega)]
          cases hl : listed.getD e.on true with
          | true => rfl
          | false =>
            have hm : e.on ∈ unl listed ops.size := mem_unl.2 ⟨by omega, hl⟩
            rw [← hr, List.map_cons, List.mem_cons] at hm
            rw [List.map_cons] at hsort
            rcases hm with hm | hm
            · omega
            · have := (List.pairwise_cons.1 hsort).1 _ hm; omega⟩
        rw [hnil] at this
        simp at this
    · obtain ⟨hun, o, hio, hed⟩ := mem_ready.1 hi
      have hin : i < ops.size := (Array.getElem?_eq_some_iff.1 hio).1
      have hmem : i ∈ rem.map Prod.fst := by rw [hr]; exact mem_unl.2 ⟨hin, hun⟩
      obtain ⟨q, hq, rfl⟩ := List.mem_map.1 hmem
      have hqo : q.2 = o := by have := ho q hq; rw [hio] at this; cases this; rfl
      obtain ⟨pre, post, hsplit⟩ := List.append_of_mem hq
      subst hqo
      rw [hsplit] at hr hsort e ho hf hw
      have hord : (∀ z ∈ pre, z.1 < q.1) ∧ ∀ z ∈ post, q.1 < z.1 := by
        rw [List.map_append, List.map_cons] at hsort
        exact ⟨fun z hz => (List.pairwise_append.1 hsort).2.2 z.1 (List.mem_map_of_mem hz) q.1 (by simp), fun z hz => (List.pairwise_cons.1 (List.pairwise_append.1 hsort).2.1).1 z.1 (List.mem_map_of_mem hz)⟩
      have hcomp : ∀ z ∈ pre, compat C ops (p.at z.1) z.2 (p.at q.1) q.2 = true := fun z hz => by
        have hzo := ho z (by simp [hz])
        have hp := st.pair q.1 z.1 z.2 q.2 (hord.1 z hz) hzo hio
        simp only [pairOk, Bool.and_eq_true, Bool.or_eq_true] at hp
        rcases hp.1.1 with hb | hb
        · have h1 := far_listed st hcl (q.1 + 1) q.1 q.2 (by omega) hio hed z.1 hb
          have h2 : z.1 ∈ unl listed ops.size := by rw [← hr]; simp; exact .inl ⟨z.2, hz⟩
          have h3 := (mem_unl.1 h2)
          rw [← getD_tf hs h3.1] at h1
          rw [h3.2] at h1; cases h1
        · exact hb
      obtain ⟨s1, k1, k2⟩ := front pre s s' hcomp (hw q (by simp)) e
      refine opStep_sound hc hio r k1 fun a' w' S' φ' r' x' => ?_
      refine ih (listed.setIfInBounds q.1 true) (pre ++ post) (by simp [hs]) ?_ (fun z hz => ho z (by simp at hz ⊢; rcases hz with h | h <;> simp [h])) (by simp at hf ⊢; omega) ?_ r' ?_ k2 (fun a2 w2 S2 φ2 r2 x2 => hQ a2 w2 S2 φ2 r2 (x'.trans x2))
      · rw [List.map_append, List.map_cons] at hr
        rw [unl_set hs hr.symm, List.map_append]
      · intro j oj hj hl ee hee hb
        have hset : ∀ k, listed.getD k false = true → (listed.setIfInBounds q.1 true).getD k false = true := fun k hk => getD_set_true hk
        by_cases hjq : j = q.1
        · subst hjq
          rw [hio] at hj; cases hj
          exact hset _ (hed ee hee hb)
        · refine hset _ (hcl j oj hj ?_ ee hee hb)
          rw [getD_set_ne false (Ne.symm hjq)] at hl
          exact hl
      · intro z hz
        have hz' : z ∈ pre ∨ z ∈ post := by simpa using hz
        have hwz := hw z (by simp; rcases hz' with h | h <;> simp [h])
        rcases hz' with hz' | hz'
        · have hcz := hcomp z hz'
          simp only [compat, Bool.and_eq_true] at hcz
          obtain ⟨_, a2, _⟩ := Oper.apart_spec hcz.1
          refine waits_step k1 hwz (fun hy hx => by rw [hx, hy] at hcz; simp at hcz) (fun hy hx t ht hzt => a2 t hzt ht)
        · have hp := st.pair z.1 q.1 q.2 z.2 (hord.2 z hz') hio (ho z (by simp [hz']))
          simp only [pairOk, Bool.and_eq_true] at hp
          refine waits_step k1 hwz (fun hy hx => by have := hp.2; rw [hx, hy] at this; simp at this) (fun hy hx t ht hzt => by
            have := hp.1.2
            rw [hx, hy, ht, hzt] at this
            simp at this)
theorem kept_drew (w : World) : Kept w { w with drawn := w.drawn + 1 } := ⟨rfl, rfl, rfl, Nat.le_refl _, fun _ _ => rfl⟩
theorem draw_sound {C : Cx} {call : Run} (hc : CallOk C call) (hm : C.P.follows .mixedOrders = true) {base : Nat} {ops : Array Oper} {p : Plan} (hok : drawOk C ops p = true) {Q : Exit → Act → World → Prop} {w : World} {S : Nat → Prop} {φ : Phi} {a : Act} {s s' : St} (r : ARel w S φ a s)
    (hw : ∀ o ∈ ops, Waits C base s.heap o) (e : opsRun C call true base ops p 0 ops.toList s = some s') (hQ : ∀ a' w' S' φ', ARel w' S' φ' a' s' → Ext w S φ s.heap w' S' φ' s'.heap → Q .normal a' w') (id : Nat) : (Code.region id ops true).wp C.P Q a w := by
  obtain ⟨mk, st⟩ := drawOk_static hok
  obtain ⟨k1, k2⟩ := kept_sound r.heap (kept_drew w) (S1 := S) (fun _ h => h) (fun _ h => .inl h) r.heap.lt
  have r2 : ARel { w with drawn := w.drawn + 1 } S φ a s := ⟨r.tmps.vrel r.heap k2, r.defers, k1⟩
  refine wp_region_any hm ?_
  rw [runN_of] at e
  refine any_sound hc st ops.size (Array.replicate ops.size false) _ (by simp) ?_ ?_ (by simp) ?_ r2 ?_ e (fun a' w' S' φ' r' x' => hQ a' w' S' φ' r' (k2.trans x'))
  · rw [List.map_map]
    have h1 : unl (Array.replicate ops.size false) ops.size = List.range ops.size := by
      unfold unl
      rw [List.filter_eq_self]
      intro i hi
      rw [List.mem_range] at hi
      simp [Array.getD, hi]
    rw [h1]
    have h2 : (Prod.fst ∘ fun (q : Oper × Nat) => (q.2, q.1)) = Prod.snd := rfl
    rw [h2, List.zipIdx_map_snd]
    simp [List.range_eq_range']
  · intro q hq
    obtain ⟨z, hz, rfl⟩ := List.mem_map.1 hq
    have := List.mem_zipIdx hz
    simp only
    rw [← Array.getElem?_toList]
    obtain ⟨_, h2, h3⟩ := this
    simp at h2 h3
    rw [Array.getElem?_toList, Array.getElem?_eq_getElem h2, h3]
  · intro i o ho hl
    simp [Array.getD] at hl
  · intro q hq
    obtain ⟨z, hz, rfl⟩ := List.mem_map.1 hq
    obtain ⟨_, h2, h3⟩ := List.mem_zipIdx hz
    simp at h2 h3
    exact hw z.1 (by rw [h3]; exact Array.getElem_mem _)
end Go.Proofs.YtcmajlphfnihgaaA
