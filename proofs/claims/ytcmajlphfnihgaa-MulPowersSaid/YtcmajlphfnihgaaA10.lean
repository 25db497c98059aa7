/- The operations that touch no row of the call's own: all of them. -/
import Derived.Test.YtcmajlphfnihgaaA9
set_option linter.unusedVariables false
set_option linter.unusedSimpArgs false
namespace Go.Proofs.YtcmajlphfnihgaaA
open Go
variable {P : Program} {w w' : World} {S : Nat → Prop} {φ φ' : Phi} {h h' : Heap}

theorem asInts_get {k : IntKind} : ∀ {l : List D} {ns : List Int}, asInts k l = some ns → l.length = ns.length ∧ ∀ i, i < ns.length → l[i]? = some (.int k (ns.getD i 0))
  | [], ns, e => by simp [asInts] at e; subst e; exact ⟨rfl, fun i hi => by simp at hi⟩
  | .int k' n :: l, ns, e => by
    by_cases hk : k = k'
    · subst hk
      simp only [asInts, if_true] at e
      obtain ⟨m, hm, rfl⟩ := Option.map_eq_some_iff.1 e
      obtain ⟨h1, h2⟩ := asInts_get hm
      refine ⟨by simp [h1], fun i hi => ?_⟩
      cases i with
      | zero => rfl
      | succ i => simpa using h2 i (by simpa using hi)
    · simp [asInts, hk] at e
  | .top :: l, ns, e | .bool _ :: l, ns, e | .str _ :: l, ns, e | .nilS :: l, ns, e | .ints _ _ :: l, ns, e | .list _ _ :: l, ns, e | .nilP :: l, ns, e | .ptr _ :: l, ns, e | .agg _ :: l, ns, e | .tuple _ :: l, ns, e
  | .nilM :: l, ns, e | .sref _ _ _ _ _ :: l, ns, e | .pref _ _ _ _ :: l, ns, e | .fn _ _ _ :: l, ns, e | .nilF :: l, ns, e | .nilI :: l, ns, e | .lit _ :: l, ns, e => by simp [asInts] at e

theorem Good.made (H : HRel w S φ h) {s : Sem Value} {v : Value} {d : D} (hr : s.run P w = .ok v w') (hos : w'.os = w.os) (htape : w'.tape = w.tape) (hout : w'.output = w.output) (hsz : w'.heap.size = w.heap.size + 1)
    (hh : ∀ i, i < w.heap.size → w'.heap[i]? = w.heap[i]?) (hv : VRel w' (fun A => S A ∨ A = w.heap.size) φ v d) : Good P w S φ h (do pure (Next.value (← s))) d h := by
  obtain ⟨h1, h2⟩ := frozen_new H hos htape hout hsz hh
  exact ⟨v, w', _, φ, .inl (by simp [hr]), h2, h1, hv⟩
theorem alloc_old (w : World) (o : Obj) (i : Nat) (hi : i < w.heap.size) : (w.alloc o).heap[i]? = w.heap[i]? := by
  show (w.heap.push o)[i]? = _
  rw [Array.getElem?_push, if_neg (by omega)]
theorem buildSlice_good (H : HRel w S φ h) {C : Cx} {t : TypeId} {len : Nat} {parts : Array (Nat × Operand)} {ρ : Operand → Value} {σ : Env} (hρ : ∀ x, VRel w S φ (ρ x) (σ x)) {o : Oper} (ho : o.op = .buildSlice t len parts) {d : D}
    (e : opP C o σ = some d) : Good C.P w S φ h (do pure (Next.value (← Instr.buildSlice t len (parts.map fun p => (p.1, ρ p.2))))) d h := by
  simp only [opP, ho] at e
  obtain ⟨el, he, e⟩ := Option.bind_eq_some_iff.1 e
  obtain ⟨s, hs, e⟩ := Option.bind_eq_some_iff.1 e
  have hu := elem_run he
  by_cases hlen : len ≤ 4096
  · rw [if_pos hlen] at e
    by_cases h0 : len = 0
    · subst h0
      simp only [if_true] at e
      by_cases hp : parts.toList.isEmpty = true
      · rw [if_pos hp] at e; cases e
        have hp' : parts = #[] := by simpa using hp
        subst hp'
        refine Good.made H (w' := w.alloc (.cells #[] el)) (v := .slice (some ⟨w.heap.size, 0, none⟩) 0 0) ?_ rfl rfl rfl (by simp) (alloc_old w _) .nilS
        simp [Instr.buildSlice, run_underlying hu, run_szOf hs, Instr.fill, newRow, Array.range_zero']
      · rw [if_neg hp] at e; cases e
    · rw [if_neg h0] at e
      obtain ⟨z, hz, e⟩ := Option.bind_eq_some_iff.1 e
      by_cases hc : 0 < s ∧ s ≤ 4096 ∧ z.cells.length = s ∧ z.cells.all D.one = true
      · rw [if_pos hc] at e
        obtain ⟨l, hl, e⟩ := Option.bind_eq_some_iff.1 e
        obtain ⟨v, hv, hzv⟩ := zero_run (P := C.P) (w := w) hz
        obtain ⟨cells, hf, hr, hll⟩ := buildS_sound (ρ := ρ) (σ := fun x => norm C.P el (σ x)) (fun x => norm_sound el (hρ x)) parts.toList _ _ l (zeros_row (len := len) hzv hc.2.2 hc.1) hl
        rw [List.length_replicate] at hll
        have hle : len * s ≤ 4096 * 4096 := Nat.mul_le_mul hlen hc.2.1
        have hne : len * s ≠ 0 := by
          have : 0 < len * s := Nat.mul_pos (by omega) hc.1
          omega
        have hrun : (Instr.buildSlice t len (parts.map fun p => (p.1, ρ p.2))).run C.P w = .ok (.slice (some ⟨w.heap.size, 0, none⟩) len len) (w.alloc (.cells cells el)) := by
          have h2 : ¬ (len * s > 2 ^ 24) := by have : (2 : Nat) ^ 24 = 4096 * 4096 := by decide
                                               omega
          have hf' : Instr.fill (fun i => some (i * s, s)) ((Array.range (len * s)).map fun x => v.cells[x % v.cells.size]!) (parts.map fun p => (p.1, ρ p.2)).toList = some cells := by
            rw [Array.toList_map]; exact hf
          simp only [Instr.buildSlice, Sem.run_bind, run_underlying hu, Result.andThen_ok, run_szOf hs, h2, if_false, hne, hv, Sem.run_pure, hf', Sem.run_ite]
          simp [newRow]
        have hmono : ∀ {x : Value} {e : D}, VRel w S φ x e → e.isT 2 = true → VRel (w.alloc (.cells cells el)) (fun A => S A ∨ A = w.heap.size) noPhi x e := fun {x e} r ht =>
          (isT_vrel 2 r ht).mono (fun _ h => .inl h) (fun b hb => alloc_old w _ b (H.lt b hb)) (fun _ _ _ h => h)
        by_cases hT : (l.all fun d => d.cells.all fun c => c.isT 2) = true
        · rw [if_pos hT] at e
          have hT' : ∀ (i : Nat) (d : D) (j : Nat) (c : D), l[i]? = some d → d.cells[j]? = some c → c.isT 2 = true := fun i d j c h1 h2 => by
            rw [List.all_eq_true] at hT
            have := hT d (List.mem_of_getElem? h1)
            rw [List.all_eq_true] at this
            exact this c (List.mem_of_getElem? h2)
          refine Good.made H hrun rfl rfl rfl (by simp) (alloc_old w _) ?_
          split at e
          · rename_i k hk
            obtain ⟨ns, hns, rfl⟩ := Option.map_eq_some_iff.1 e
            obtain ⟨g1, g2⟩ := asInts_get hns
            have hnl : ns.length = len := by omega
            have key := VRel.ints (w := w.alloc (.cells cells el)) (S := fun A => S A ∨ A = w.heap.size) (φ := noPhi) (a := some ⟨w.heap.size, 0, none⟩) (cap := len) (k := k) (xs := ns) (by omega) w.heap.size 0 (fun _ => ⟨rfl, .inr rfl⟩) (fun i hi => by
              have hd := g2 i hi
              obtain ⟨k1, k2⟩ := hr.2 i _ hd
              have hs1 : s = 1 := by rw [← k1.1]; rfl
              subst hs1
              obtain ⟨x, m1, m2⟩ := k2 0 _ rfl
              rw [World.cell?_alloc_new]
              simp at m1
              rw [Nat.zero_add, m1, m2.int_inv])
            rw [hnl] at key
            exact .lit key rfl
          · cases e
            have key := VRel.list (w := w.alloc (.cells cells el)) (S := fun A => S A ∨ A = w.heap.size) (φ := noPhi) (a := some ⟨w.heap.size, 0, none⟩) (cap := len) (sz := s) (xs := l) (by omega) w.heap.size 0
              (fun i j => (cells[i * s + j]?).getD default) (fun _ => ⟨rfl, .inr rfl⟩) (fun i d hd => (hr.2 i d hd).1) (fun i d j c hd hc' => by
                obtain ⟨x, m1, m2⟩ := (hr.2 i d hd).2 j c hc'
                rw [World.cell?_alloc_new, Nat.zero_add, m1]; rfl) (fun i d j c hd hc' => by
                obtain ⟨x, m1, m2⟩ := (hr.2 i d hd).2 j c hc'
                rw [m1]; exact hmono m2 (hT' i d j c hd hc'))
            rw [hll] at key
            exact .lit key rfl
        · rw [if_neg hT] at e; cases e
      · rw [if_neg hc] at e; cases e
  · rw [if_neg hlen] at e; cases e

theorem freeze_heap (w : World) (a : Addr) (n i : Nat) (hi : i ≠ a.block) : (w.freeze a n).heap[i]? = w.heap[i]? := by
  unfold World.freeze
  split
  · rfl
  · simp only [Array.getElem?_modify]; rw [if_neg (Ne.symm hi)]
theorem freeze_cell (w : World) (a b : Addr) (n : Nat) : (w.freeze a n).cell? b = w.cell? b := by
  unfold World.freeze
  split
  · rfl
  · simp only [World.cell?, Array.getElem?_modify]
    by_cases hb : a.block = b.block
    · rw [if_pos hb]
      cases hw : w.heap[b.block]? with
      | none => rfl
      | some o => cases o <;> rfl
    · rw [if_neg hb]
theorem freeze_size (w : World) (a : Addr) (n : Nat) : (w.freeze a n).heap.size = w.heap.size := by unfold World.freeze; split <;> simp
theorem freeze_rest (w : World) (a : Addr) (n : Nat) : (w.freeze a n).os = w.os ∧ (w.freeze a n).tape = w.tape ∧ (w.freeze a n).output = w.output := by unfold World.freeze; split <;> exact ⟨rfl, rfl, rfl⟩
theorem bytes_good (H : HRel w S φ h) {src dst el : TypeId} (hsrc : P.underlying src = some .string) (hdst : P.underlying dst = some (.slice el)) (hel : P.underlying el = some (.int .u8)) (s : ByteArray) :
    Good P w S φ h (do pure (Next.value (← convert src dst (.string s)))) (.ints .u8 (s.data.toList.map fun b => (b.toNat : Int))) h := by
  have hq : (Question.appendCap s.size 0 el).forced = false := rfl
  obtain ⟨cap, hcap⟩ : ∃ cap, (Question.appendCap s.size 0 el).cut (w.tape w.drawn (.appendCap s.size 0 el)) = cap := ⟨_, rfl⟩
  have hge : s.size ≤ cap := by rw [← hcap]; exact Nat.le_add_right _ _
  generalize hcells : (s.data.map fun b => (Value.int .u8 b.toNat)) ++ Array.replicate (cap - s.size) (Value.int .u8 0) = cells
  have hdata : s.data.size = s.size := rfl
  have hcs : cells.size = cap := by rw [← hcells]; simp [hdata]; omega
  have hrun : (convert src dst (.string s)).run P w = .ok (.slice (some ⟨w.heap.size, 0, none⟩) s.size cap) (((w.drew.alloc (.cells cells el))).freeze ⟨w.heap.size, cap, none⟩ 1) := by
    simp only [convert, Sem.run_bind, run_underlying hsrc, run_underlying hdst, Result.andThen_ok, run_underlying hel, Conv.stringToBytes, run_choose, hq, Bool.false_eq_true, if_false, hcap, newRow, run_newObj, hcells, Sem.run_pure, markStringish, run_shape]
    have hsh : (w.drew.alloc (.cells cells el)).shape? w.heap.size = some (el, cap) := by
      have : (w.drew.alloc (.cells cells el)).heap[w.heap.size]? = some (.cells cells el) := by
        show (w.heap.push _)[w.heap.size]? = _
        simp
      simp only [World.shape?, this, hcs]
    have e1 : ({ ({ w with drawn := w.drawn + 1 } : World) with heap := w.heap.push (.cells cells el) } : World) = w.drew.alloc (.cells cells el) := rfl
    rw [e1, hsh]
    simp
  obtain ⟨f1, f2, f3⟩ := freeze_rest (w.drew.alloc (.cells cells el)) ⟨w.heap.size, cap, none⟩ 1
  refine Good.made H hrun f1 f2 f3 (by rw [freeze_size]; simp) (fun i hi => ?_) ?_
  · rw [freeze_heap _ _ _ _ (by simp; omega)]
    exact alloc_old w.drew _ i hi
  · have hl : (s.data.toList.map fun b => (b.toNat : Int)).length = s.size := by simp [hdata]
    have key := VRel.ints (w := ((w.drew.alloc (.cells cells el))).freeze ⟨w.heap.size, cap, none⟩ 1) (S := fun A => S A ∨ A = w.heap.size) (φ := φ) (a := some ⟨w.heap.size, 0, none⟩) (cap := cap) (k := .u8)
      (xs := s.data.toList.map fun b => (b.toNat : Int)) (by rw [hl]; exact hge) w.heap.size 0 (fun _ => ⟨rfl, .inr rfl⟩) (fun i hi => by
        rw [hl] at hi
        rw [freeze_cell]
        have := World.cell?_alloc_new w.drew cells el i
        rw [show w.drew.heap.size = w.heap.size from rfl] at this
        rw [Nat.zero_add, this, ← hcells, Array.getElem?_append_left (by simp [hdata]; exact hi)]
        have hi' : i < s.data.size := hi
        exact by
          rw [Array.getElem?_map]
          simp only [List.getD_eq_getElem?_getD, List.getElem?_map, Array.getElem?_toList, Array.getElem?_eq_getElem hi', Option.map_some, Option.getD_some])
    rw [hl] at key
    exact key

theorem fieldPtr_sound {s : TypeId} {f off : Nat} (hoff : offOf P s f = some off) {x : Value} {cs : List D} (r : VRel w S φ x (.ptr cs)) : ∃ v, (Instr.fieldAt s x f).run P w = .ok v w ∧ VRel w S φ v (.ptr (cs.drop off)) := by
  cases r with
  | @ptr _ B q cs vs hB hx hv =>
    exact ⟨_, offOf_run hoff B q, .ptr (fun j => vs (off + j)) hB (fun j c hj => by rw [List.getElem?_drop] at hj; rw [Nat.add_assoc]; exact hx _ c hj) (fun j c hj => by rw [List.getElem?_drop] at hj; exact hv _ c hj)⟩
theorem fieldPref_sound {s : TypeId} {f off : Nat} (hoff : offOf P s f = some off) {x : Value} {b u i q : Nat} (r : VRel w S φ x (.pref b u i q)) : ∃ v, (Instr.fieldAt s x f).run P w = .ok v w ∧ VRel w S φ v (.pref b u i (q + off)) := by
  cases r with
  | pref hp => exact ⟨_, offOf_run hoff _ _, by rw [Nat.add_assoc]; exact .pref hp⟩
theorem convD_sound {src dst : TypeId} {x : Value} {a d : D} (e : convD P src dst a = some d) (r : VRel w S φ x a) : ∃ v, (convert src dst x).run P w = .ok v w ∧ VRel w S φ v d := by
  unfold convD at e
  split at e
  · rename_i k1 k2 k n hs hd
    cases e
    obtain rfl := r.int_inv
    exact ⟨_, by simp [convert, run_underlying hs, run_underlying hd, Conv.intToInt], .int⟩
  · rename_i s hs hd
    cases e
    obtain rfl := r.str_inv
    exact ⟨_, by simp [convert, run_underlying hs, run_underlying hd], .str⟩
  · cases e
theorem opP_sound (H : HRel w S φ h) {C : Cx} {o : Oper} {ρ : Operand → Value} {σ : Env} (hρ : ∀ x, VRel w S φ (ρ x) (σ x)) {d : D} (e : opP C o σ = some d) : Good C.P w S φ h (execOp ρ o) d h := by
  have e0 := e
  unfold execOp
  unfold opP at e
  split at e
  · rename_i x ho; rw [ho]; cases e; exact .now H (hρ x)
  · rename_i x ho; rw [ho]; cases e; exact .now H (hρ x)
  · rename_i c a b ho
    rw [ho]
    have rc := hρ c
    split at e
    · rename_i t hc
      rw [hc] at rc
      cases e
      have hb := rc.bool_inv
      refine ⟨if t then ρ a else ρ b, w, S, φ, .inl ?_, .refl .., H, ?_⟩
      · simp only [hb, asBool, pure_bind, Sem.run_pure]
      · cases t
        · exact hρ b
        · exact hρ a
    · cases e
  · rename_i t parts ho
    rw [ho]
    split at e
    · rename_i fs hu
      split at e
      · rename_i z hz
        split at e
        · rename_i hall
          obtain ⟨cs, hcs, rfl⟩ := Option.map_eq_some_iff.1 e
          exact .quiet H (build_sound hu hz hall hρ hcs)
        · cases e
      · cases e
    · cases e
  · rename_i t len parts ho
    rw [ho]
    exact buildSlice_good H hρ ho e0
  · rename_i x ho
    rw [ho]
    have rx := hρ x
    split at e
    · rename_i cs hx
      rw [hx] at rx
      cases e
      obtain ⟨q, hq⟩ := rx.ptr_inv
      simp only [hq] at rx ⊢
      exact .now H rx
    · rename_i b v i off hx
      rw [hx] at rx
      cases e
      obtain ⟨q, hq⟩ := rx.pref_inv
      simp only [hq] at rx ⊢
      exact .now H rx
    · rename_i f a c hx
      rw [hx] at rx
      cases e
      obtain ⟨as, cs, hq⟩ : ∃ as cs, ρ x = .func (.func f) as cs := by generalize ρ x = v at *; cases rx; exact ⟨_, _, rfl⟩
      simp only [hq] at rx ⊢
      exact .now H rx
    · cases e
  · rename_i op t x y t' ho
    rw [ho]
    split at e
    · rename_i d' hd
      cases e
      exact .quiet H (binD_sound hd (hρ x) (hρ y) t x y)
    · obtain ⟨u, hu, e⟩ := Option.bind_eq_some_iff.1 e
      exact .quiet H (eqD_sound hu e (hρ x) (hρ y) x y)
  · rename_i op t x ho
    rw [ho]
    exact .quiet H (unD_sound e (hρ x))
  · rename_i src dst x ho
    rw [ho]
    have rx := hρ x
    split at e
    · rename_i el s hs hd hx
      split at e
      · rename_i hel
        split at e
        · cases e
          rw [hx] at rx
          simp only [rx.str_inv]
          exact bytes_good H hs hd hel s
        · cases e
      · cases e
    · exact .quiet H (convD_sound e rx)
  · rename_i f first captured ho
    rw [ho]
    cases e
    refine .quiet H ⟨_, rfl, .fn (by simp) (by simp) (fun i v d h1 h2 => ?_) (fun i v d h1 h2 => ?_)⟩
    · rw [Array.getElem?_map] at h1
      rw [List.getElem?_map, Array.getElem?_toList] at h2
      cases hx : first[i]? with
      | none => rw [hx] at h1; cases h1
      | some x => rw [hx] at h1 h2; simp at h1 h2; subst h1; subst h2; exact hρ x
    · rw [Array.getElem?_map] at h1
      rw [List.getElem?_map, Array.getElem?_toList] at h2
      cases hx : captured[i]? with
      | none => rw [hx] at h1; cases h1
      | some x => rw [hx] at h1 h2; simp at h1 h2; subst h1; subst h2; exact hρ x
  · rename_i s x f ho
    rw [ho]
    obtain ⟨off, hoff, e⟩ := Option.bind_eq_some_iff.1 e
    have rx := hρ x
    split at e
    · rename_i cs hx
      rw [hx] at rx
      cases e
      exact .quiet H (fieldPtr_sound hoff rx)
    · rename_i b v i q hx
      rw [hx] at rx
      cases e
      exact .quiet H (fieldPref_sound hoff rx)
    · cases e
  · rename_i t x f ho
    rw [ho]
    split at e
    · rename_i fs hu
      obtain ⟨y, hy, e⟩ := Option.bind_eq_some_iff.1 e
      obtain ⟨a, ha, e⟩ := Option.bind_eq_some_iff.1 e
      obtain ⟨s, hs, e⟩ := Option.bind_eq_some_iff.1 e
      have rx := hρ x
      split at e
      · rename_i cs hx
        rw [hx] at rx
        exact .quiet H (field_sound hu hy ha hs rx e)
      · cases e
    · cases e
  · rename_i t x ix ho
    rw [ho]
    exact .quiet H (indexD_sound e (hρ x) (hρ ix))
  · rename_i t x ix ho
    rw [ho]
    have rx := hρ x
    have ri := hρ ix
    split at e
    · rename_i s k i hu hx hi
      rw [hx] at rx
      rw [hi] at ri
      by_cases h0 : 0 ≤ i
      · by_cases h1 : i < (s.size : Int)
        · simp only [h0, h1, if_true, Option.some.injEq] at e
          subst e
          refine .quiet H ⟨.int .u8 ((s.data.getD i.toNat 0).toNat : Int), ?_, .int⟩
          have hlt : i.toNat < s.size := by omega
          have hlt' : i.toNat < s.data.size := hlt
          simp only [rx.str_inv, ri.int_inv, Instr.index, asIntOf, Sem.run_bind, Sem.run_pure, Result.andThen_ok, run_underlying hu, h0, if_true, ByteArray.getElem?_lt' s _ hlt]
          simp only [Array.getD, hlt', dif_pos]
          rfl
        · simp only [h0, h1, if_true, if_false] at e; cases e
      · simp only [h0, if_false] at e; cases e
    · cases e
  · rename_i x i ho
    rw [ho]
    have rx := hρ x
    split at e
    · rename_i vs hx
      rw [hx] at rx
      exact .quiet H (extract_sound rx e)
    · cases e
  · rename_i t x lo hi mx ho
    rw [ho]
    exact .quiet H (sliceD_sound hρ e)
  · rename_i c ho
    rw [ho]
    split at e
    · rename_i hc
      split at e
      · rename_i x t l ha ht
        obtain ⟨n, hn, rfl⟩ := Option.map_eq_some_iff.1 e
        have ha' : c.args = #[x] := by rw [← Array.toArray_toList (xs := c.args), ha]
        have ht' : c.argTypes[0]? = some t := by rw [← Array.getElem?_toList, ht]; rfl
        simp only [resolve, hc, pure_bind, invoke, builtin, ha']
        have hm : (#[x] : Array Operand).map ρ = #[ρ x] := by simp
        rw [hm]
        exact .quiet H ⟨_, lenD_sound hn (hρ x) _ ht' _, .int⟩
      · cases e
    · rename_i hc
      split at e
      · rename_i x l ha
        have ha' : c.args = (x :: l).toArray := by rw [← Array.toArray_toList (xs := c.args), ha]
        simp only [resolve, hc, pure_bind, invoke, builtin, ha']
        have := minD_sound (P := C.P) e (hρ x) (VsRel.map (S := S) (φ := φ) (w := w) l ρ σ fun y _ => hρ y) c.argTypes o.type
        exact .quiet H (by simpa using this)
      · cases e
    · rename_i hc
      split at e
      · rename_i x l ha
        have ha' : c.args = (x :: l).toArray := by rw [← Array.toArray_toList (xs := c.args), ha]
        simp only [resolve, hc, pure_bind, invoke, builtin, ha']
        have := maxD_sound (P := C.P) e (hρ x) (VsRel.map (S := S) (φ := φ) (w := w) l ρ σ fun y _ => hρ y) c.argTypes o.type
        exact .quiet H (by simpa using this)
      · cases e
    · cases e
  · cases e
end Go.Proofs.YtcmajlphfnihgaaA
