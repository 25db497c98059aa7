import Derived.Test.YtlpbmajbalenjaaLex1
import Derived.Test.YtlpbmajbalenjaaM1
set_option linter.unusedVariables false
set_option linter.unusedSimpArgs false
namespace Go.Proofs.YtlpbmajbalenjaaA
open Go Go.Proofs Go.RowKit Go.Shelf
attribute [local go_sem] Oper.semAt_some
theorem rf_open {F : Fence} {n : Nat} {P : Program} {g : Operand} {ps : Array Tmp} {assign body : Code} {Q : Exit → Act → World → Prop} {a : Act} {w : World} (hro : F.round = none) (h1 : 1 ≤ n)
  {gf : Nat} {lb : Array Value} (hg : a.eval g = .func (.func gf) #[] lb) (hFg : F.fn gf) (eg : ∀ args w, (callFunc gf args).run P w = .ok (.enter gf args) w)
  (h : ∀ fn, F.fn fn → ∀ rec : LoopState → Option Code → Loop, rec = (fun st pe => { state := st, pending := pe, fn, tmps := a.tmps, params := ps, assign, body, defers := w.heap.size }) →
   CallsIn F (n - 1) P gf (#[.func (.yield (w.heap.size + 1)) #[] #[]] ++ lb) ((w.alloc (.deferred (some []))).alloc (.loop (rec .ready none))) (rangePost F n P (w.heap.size + 1) Q { a with defers := [{ target := .collected w.heap.size, args := #[] }] ++ a.defers })) :
  (Code.rangeFunc g ps assign body).wpIn F n P Q a w := by
 refine wpIn_rangeFunc fun fn hfn => ?_
 rw [hro]
 have hc := h fn hfn _ rfl
 obtain ⟨W1, hW1⟩ : ∃ W1, (w.alloc (.deferred (some []))).alloc (.loop { state := .ready, pending := none, fn := fn, tmps := a.tmps, params := ps, assign := assign, body := body, defers := w.heap.size }) = W1 := ⟨_, rfl⟩
 refine ⟨w.heap.size + 1, [{ target := .collected w.heap.size, args := #[] }], W1, { target := .fn (.func gf) lb, args := #[.func (.yield (w.heap.size + 1)) #[] #[]] }, W1, gf, #[.func (.yield (w.heap.size + 1)) #[] #[]] ++ lb, W1, by rw [← hW1]; exact run_enterLoop_outer _ _ _ _ _, ?_, ?_, ?_, fun _ => h1, by rw [← hW1]; exact hc⟩
 ·simp only [resolve, hg]
  simp [go_sem]
 ·intro f' hf'; simp [Target.leads] at hf'; subst hf'; exact hFg
 ·simp [invoke, go_sem, eg]
def flatV : D → Option Value
 | .int k n => some (.int k n)
 | .str s => some (.string s)
 | .tuple [.int k n, .str s] => some (.tuple #[.int k n, .string s])
 | _ => none
def tkD (t : Tk) : D := tokD t.1 t.2.1 t.2.2
def strLen (b : Nat) (W : World) : Nat := match W.heap[b]? with
 | some (.cells cs _ _) => (match (cs[0]? : Option Value) with | some (Value.string s) => s.size | _ => 0)
 | _ => 0
theorem strLen_of {W : World} {b : Nat} {t : TypeId} {s : ByteArray} (h : Boxed W b t (.string s)) : strLen b W = s.size := by
 unfold strLen
 rw [show W.heap[b]? = _ from h]
 rfl
def lexFns : LexFns := ⟨13, 43, 44, 45, 46, 48⟩
theorem lexC_eq {s : ByteArray} (h : 0 < s.size) : lexC s = ((s[0]'h).toNat : Int) := by
 unfold lexC
 rw [Array.getD_eq_getD_getElem?, Array.getElem?_eq_getElem (show 0 < s.data.size from h)]
 rfl
theorem lexBlank_inv {L : LexFns} {call : Icall} {s : ByteArray} {b : Bool} (h : lexBlank L call s = some b) : (lexC s = 35 ∧ b = true) ∨ (lexC s ≠ 35 ∧ ∃ i, call L.idx [.str lexBlanks, .int .u8 (lexC s)] = some (.int .i64 i) ∧ b = decide (0 ≤ i)) := by
 unfold lexBlank at h
 split at h
 ·exact .inl ⟨by assumption, (Option.some.inj h).symm⟩
 ·refine .inr ⟨by assumption, ?_⟩
  obtain ⟨r, h1, h2⟩ := Option.bind_eq_some_iff.1 h
  split at h2
  ·exact ⟨_, h1, (Option.some.inj h2).symm⟩
  ·cases h2
theorem lexStep_inv {L : LexFns} {call : Icall} {s : ByteArray} {st : Int × Bool × Int} (h : lexStep L call s = some st) : ∃ k more, call L.kind [.int .u8 (lexC s)] = some (.tuple [.int .i64 k, .str more]) ∧ ∃ b, lexBlank L call s = some b ∧
  ((b = false ∧ k = 0 ∧ st = (0, false, 0)) ∨ (¬ (b = false ∧ k = 0) ∧ ∃ n, call L.len [.str s, .str more] = some (.int .i64 n) ∧ ((b = true ∧ ∃ n', call L.pass [.str s] = some (.int .i64 n') ∧ st = (k, true, n')) ∨ (b = false ∧ st = (k, false, n))))) := by
 unfold lexStep at h
 obtain ⟨r, h1, h2⟩ := Option.bind_eq_some_iff.1 h
 split at h2
 ·refine ⟨_, _, h1, ?_⟩
  obtain ⟨b, h3, h4⟩ := Option.bind_eq_some_iff.1 h2
  refine ⟨b, h3, ?_⟩
  split at h4
  ·rename_i hb; exact .inl ⟨hb.1, hb.2, (Option.some.inj h4).symm⟩
  ·rename_i hb
   refine .inr ⟨hb, ?_⟩
   obtain ⟨r5, h5, h6⟩ := Option.bind_eq_some_iff.1 h4
   split at h6
   ·refine ⟨_, h5, ?_⟩
    cases b with
    | true =>
     obtain ⟨r7, h7, h8⟩ := Option.bind_eq_some_iff.1 h6
     split at h8
     ·exact .inl ⟨rfl, _, h7, (Option.some.inj h8).symm⟩
     ·cases h8
    | false => exact .inr ⟨rfl, (Option.some.inj h6).symm⟩
   ·cases h6
 ·cases h2
theorem wrapI {x : Int} (h0 : -9223372036854775808 ≤ x) (h1 : x ≤ 9223372036854775807) : IntKind.i64.wrap x = x := by rw [IntKind.wrap_i64]; omega
structure LEnd (n : Nat) (w : World) (ln : Int) (W : World) : Prop where
 below : Below n w W
 r0 : Boxed W n 30 (.slice none 0 0)
 r1 : Boxed W (n + 1) 3 (.int .i64 ln)
 r2 : Boxed W (n + 2) 31 (.int .i64 21)
 dfr : W.heap[n + 6]? = some (.deferred (some []))
theorem LEnd.turn {n : Nat} {w W : World} {ln : Int} (h : LEnd n w ln W) (o : Obj) : LEnd n w ln (W.putObj (n + 7) o) := by
  have hg := grownBy_putObj' W (n + 7) o
  have hb := h.r0.lt
  have hd := (Array.getElem?_eq_some_iff.1 h.dfr).1
  exact { below := h.below.grown hg (by omega) (fun k e => by cases e; omega)
          r0 := h.r0.kept hg (by simp)
          r1 := h.r1.kept hg (by simp)
          r2 := h.r2.kept hg (by simp)
          dfr := (hg.block _ hd (by simp)).trans h.dfr }
theorem ended {n : Nat} {w Y : World} {acc : List Tk} {s : ByteArray} {ln : Int} (h : LInv n w acc s ln Y) (o : Obj) :
    ((((Y.setCell ⟨n, 0, none⟩ (.slice none 0 0)).setCell ⟨n + 1, 0, none⟩ (.int .i64 ln)).setCell ⟨n + 1 + 1, 0, none⟩ (.int .i64 21)).drew).heap[n + 7]? = Y.heap[n + 7]? ∧
    LEnd n w ln (((((Y.setCell ⟨n, 0, none⟩ (.slice none 0 0)).setCell ⟨n + 1, 0, none⟩ (.int .i64 ln)).setCell ⟨n + 1 + 1, 0, none⟩ (.int .i64 21)).drew).putObj (n + 7) o) := by
  have hg := grownBy_putObj' ((((Y.setCell ⟨n, 0, none⟩ (.slice none 0 0)).setCell ⟨n + 1, 0, none⟩ (.int .i64 ln)).setCell ⟨n + 1 + 1, 0, none⟩ (.int .i64 21)).drew) (n + 7) o
  have hs := h.size
  have b0 : Boxed ((((Y.setCell ⟨n, 0, none⟩ (.slice none 0 0)).setCell ⟨n + 1, 0, none⟩ (.int .i64 ln)).setCell ⟨n + 1 + 1, 0, none⟩ (.int .i64 21)).drew) n 30 (.slice none 0 0) := ((h.r0.set (.slice none 0 0)).other (by omega) _).other (by omega) _
  have b1 : Boxed ((((Y.setCell ⟨n, 0, none⟩ (.slice none 0 0)).setCell ⟨n + 1, 0, none⟩ (.int .i64 ln)).setCell ⟨n + 1 + 1, 0, none⟩ (.int .i64 21)).drew) (n + 1) 3 (.int .i64 ln) := ((h.r1.other (by omega) _).set (.int .i64 ln)).other (by omega) _
  have b2 : Boxed ((((Y.setCell ⟨n, 0, none⟩ (.slice none 0 0)).setCell ⟨n + 1, 0, none⟩ (.int .i64 ln)).setCell ⟨n + 1 + 1, 0, none⟩ (.int .i64 21)).drew) (n + 2) 31 (.int .i64 21) := ((h.r2.other (by omega) _).other (by omega) _).set (.int .i64 21)
  have keep : ∀ b, n + 3 ≤ b → ((((Y.setCell ⟨n, 0, none⟩ (.slice none 0 0)).setCell ⟨n + 1, 0, none⟩ (.int .i64 ln)).setCell ⟨n + 1 + 1, 0, none⟩ (.int .i64 21)).drew).heap[b]? = Y.heap[b]? := fun b hb => by
    show (((Y.setCell ⟨n, 0, none⟩ (.slice none 0 0)).setCell ⟨n + 1, 0, none⟩ (.int .i64 ln)).setCell ⟨n + 1 + 1, 0, none⟩ (.int .i64 21)).heap[b]? = _
    rw [Below.heap_setCell _ _ _ _ (by simp; omega), Below.heap_setCell _ _ _ _ (by simp; omega), Below.heap_setCell _ _ _ _ (by simp; omega)]
  have hb := ((((h.below.setCell (p := ⟨n, 0, none⟩) (by simp) (.slice none 0 0)).setCell (p := ⟨n + 1, 0, none⟩) (by simp) (.int .i64 ln)).setCell (p := ⟨n + 1 + 1, 0, none⟩) (by simp; omega) (.int .i64 21)).drew)
  refine ⟨keep _ (by omega), ?_⟩
  exact { below := hb.grown hg (by have := b0.lt; omega) fun k e => by cases e; omega
          r0 := b0.kept hg (by simp)
          r1 := b1.kept hg (by simp)
          r2 := b2.kept hg (by simp)
          dfr := (hg.block _ (by simp [World.drew, World.setCell]; omega) (by simp)).trans ((keep _ (by omega)).trans h.dfr) }
theorem ended0 {n : Nat} {w Y : World} {acc : List Tk} {s : ByteArray} {ln : Int} (h : LInv n w acc s ln Y) {u : Value} (hrow : Y.ownsRow (n + 8) 38 3 u acc.length (tksV acc)) :
  ∃ Z, Z = ((((Y.setCell ⟨n, 0, none⟩ u).setCell ⟨n + 1, 0, none⟩ (.int .i64 ln)).setCell ⟨n + 1 + 1, 0, none⟩ (.int .i64 0)).drew) ∧
  Below n w Z ∧ Boxed Z n 30 u ∧ Boxed Z (n + 1) 3 (.int .i64 ln) ∧ Boxed Z (n + 2) 31 (.int .i64 0) ∧ Z.heap[n + 6]? = some (.deferred (some [])) ∧ Z.ownsRow (n + 8) 38 3 u acc.length (tksV acc) := by
 refine ⟨_, rfl, ((((h.below.setCell (p := ⟨n, 0, none⟩) (by simp) u).setCell (p := ⟨n + 1, 0, none⟩) (by simp) (.int .i64 ln)).setCell (p := ⟨n + 1 + 1, 0, none⟩) (by simp; omega) (.int .i64 0)).drew),
  ((h.r0.set u).other (by omega) _).other (by omega) _, ((h.r1.other (by omega) _).set (.int .i64 ln)).other (by omega) _, ((h.r2.other (by omega) _).other (by omega) _).set (.int .i64 0), ?_, ?_⟩
 ·show (((Y.setCell ⟨n, 0, none⟩ u).setCell ⟨n + 1, 0, none⟩ (.int .i64 ln)).setCell ⟨n + 1 + 1, 0, none⟩ (.int .i64 0)).heap[n + 6]? = _
  rw [Below.heap_setCell _ _ _ _ (by simp), Below.heap_setCell _ _ _ _ (by simp), Below.heap_setCell _ _ _ _ (by simp)]
  exact h.dfr
 ·refine World.ownsRow.drew ?_
  exact ((hrow.kept (grownBy_setCell' Y n u) (ownBlock_ne hrow (by omega))).kept (grownBy_setCell' _ (n + 1) _) (ownBlock_ne (b := n + 1) hrow (by omega))).kept (grownBy_setCell' _ (n + 1 + 1) _) (ownBlock_ne (b := n + 1 + 1) hrow (by omega))
theorem alloc_heap (w : World) (o : Obj) : (w.alloc o).heap = w.heap.push o := rfl
theorem empty_is (s : ByteArray) : (!s.toList.isEmpty) = decide (0 < s.size) := by
 rw [Go.ByteArray.toList_eq, ← show s.data.toList.length = s.size by rw [Array.length_toList]; rfl]
 cases s.data.toList <;> simp
theorem info38 : (Try.prog.info? 38).map (fun i => (i.zero, i.size, i.bytes)) = some (some (.agg #[.int .i64 0, .string ⟨#[]⟩, .int .i64 0]), 3, 32) := by kernel_rfl
set_option maxRecDepth 100000 in
set_option maxHeartbeats 2000000 in
theorem all_in (F : Fence) (hw0 : Hid (F = Fence.wide)) (n : Nat) (hF : ∀ f, F.fn f) (h13 : F.fn 13) (h31 : F.fn 31) (h42 : F.fn 42) (hro : F.round = none) (hn : 6 ≤ n) {call : Icall}
    (H : ∀ (f : FuncId) (ds : List D) (d : D) (vs : List Value) (v : Value), call f ds = some (d) → ds.mapM flatV = some vs → flatV d = some v → ∀ (m : Nat) (W : World), CallsIn F m Try.prog f vs.toArray W fun e W' => e = .returned v ∧ W.grownBy W' none)
    (s : ByteArray) (d : D) (hd : lexLoop lexFns call (s.size + 1) s 1 [] = some d) (w : World) :
    CallsIn F n Try.prog 13 #[.string s] w fun e W' => ∃ v ln er, e = .returned (.tuple #[v, .int .i64 ln, .int .i64 er]) ∧ Below w.heap.size w W' ∧
      ((er = 0 ∧ ∃ acc, W'.ownsRow (w.heap.size + 8) 38 3 v acc.length (tksV acc) ∧ (v = .slice none 0 0 ↔ acc = []) ∧ d = .tuple [if acc.isEmpty then .nilS else .list 3 (acc.map tkD), .int .i64 ln, .int .i64 0]) ∨
       (er = 21 ∧ v = .slice none 0 0 ∧ d = .tuple [.nilS, .int .i64 ln, .int .i64 21])) := by
  have h1 : 1 ≤ n := by omega
  refine callsIn_of_wp_marks Try.func13 rfl h13 ?_ hro
  simp only [Try.ntmps13, List.size_toArray, List.length_cons, List.length_nil, Nat.reduceAdd, Nat.reduceSub, Array.replicate_succ, Array.replicate_zero, List.push_toArray, List.append_toArray, List.nil_append, List.cons_append]
  gi_wp2_with (gi_at_call 31; refine (tokens_in F (n - 1) h31 hro _ _).mono ?_; rintro e w' ⟨rfl, rfl⟩)
  refine rf_open hro h1 (gf := 42) (lb := #[.pointer (some ⟨w.heap.size + 5, 0, none⟩)]) rfl h42 (enters_of Try.func42 (by kernel_rfl) rfl) ?_
  intro fn hfn rec hrec
  rename_i Q' K hK
  simp only [World.size_alloc] at hrec ⊢
  obtain ⟨i0, hi, hz0, hz1, hz2⟩ := info_parts info38
  have round : ∀ (acc : List Tk) (r : ByteArray) (lc k : Int) (t : ByteArray) (ln : Int) (W : World), acc.length ≤ 1000000 → LInv w.heap.size w acc r lc W → W.heap[w.heap.size + 7]? = some (.loop (rec .ready none)) →
      YieldAt F (n - 1 - 1) Try.prog (w.heap.size + 7) #[.agg #[.int .i64 k, .string t, .int .i64 ln]] W fun e W' =>
        (k ≠ 0 ∧ e = .returned (.bool true) ∧ LInv w.heap.size w (acc ++ [(k, t, ln)]) r ln W' ∧ W'.heap[w.heap.size + 7]? = some (.loop (rec .ready none))) ∨
        (k = 0 ∧ t.size = 0 ∧ e = .returned (.bool true) ∧ LInv w.heap.size w acc r ln W' ∧ W'.heap[w.heap.size + 7]? = some (.loop (rec .ready none))) ∨
        (k = 0 ∧ t.size ≠ 0 ∧ e = .returned (.bool false) ∧ LEnd w.heap.size w ln W' ∧ W'.heap[w.heap.size + 7]? = some (.loop (rec .done (some .ret)))) := by
    intro acc r lc k t ln W hal hI hl
    have hy := run_yield (P := Try.prog) (args := #[.agg #[.int .i64 k, .string t, .int .i64 ln]]) hl (by rw [hrec]; rfl)
    rw [hrec] at hy
    refine ⟨_, _, _, _, hy, roundIn_of_wpIn hfn ?_⟩
    gi_wp2
    obtain ⟨W1, hW1⟩ : ∃ W1, W.alloc (.cells #[.int .i64 k, .string t, .int .i64 ln] 38) = W1 := ⟨_, rfl⟩
    have hI1 : LInv w.heap.size w acc r lc W1 := by rw [← hW1]; exact hI.kept (World.grownBy_alloc W _ none)
    have hl1 : W1.heap[w.heap.size + 7]? = some (.loop (rec .ready none)) := by rw [← hW1]; exact (Below.heap_alloc _ _ _ (Array.getElem?_eq_some_iff.1 hl).1).trans hl
    have hT1 : W1.heap[W.heap.size]? = some (.cells #[.int .i64 k, .string t, .int .i64 ln] 38 (0, 0)) := by rw [← hW1]; exact World.alloc_heap_new W _
    rw [hW1]
    refine ⟨_, run_beginRound hl1 (by rw [hrec]), ?_⟩
    have hI2 := hI1.turn (.loop { rec .ready none with state := .busy })
    have hl2 : (W1.putObj (w.heap.size + 7) (.loop { rec .ready none with state := .busy })).heap[w.heap.size + 7]? = some (.loop { rec .ready none with state := .busy }) := World.putObj_heap_same (Array.getElem?_eq_some_iff.1 hl1).1
    have hT2 : (W1.putObj (w.heap.size + 7) (.loop { rec .ready none with state := .busy })).heap[W.heap.size]? = some (.cells #[.int .i64 k, .string t, .int .i64 ln] 38 (0, 0)) := (World.putObj_heap_other (by have := hI.size; omega)).trans hT1
    generalize W1.putObj (w.heap.size + 7) (.loop { rec .ready none with state := .busy }) = X at *
    have hBn : w.heap.size + 8 ≤ W.heap.size := hI.size
    generalize W.heap.size = B at *
    clear hI1 hl1 hT1 hW1 hI hl hy
    have c0 : X.cell? ⟨B, 0, none⟩ = some (.int .i64 k) := by simp [World.cell?, hT2]
    have c1 : X.cell? ⟨B, 1, none⟩ = some (.string t) := by simp [World.cell?, hT2]
    have c2 : X.cell? ⟨B, 2, none⟩ = some (.int .i64 ln) := by simp [World.cell?, hT2]
    have f0 : X.frozen? ⟨B, 0, none⟩ = false := by simp [World.frozen?, hT2]
    have hL := hI2.line.cell
    have hLf := hI2.line.frozen
    obtain ⟨v, bv, hrow, hnil⟩ := hI2.row
    have hV := bv.cell
    clear hK
    have hI3 := hI2.setLine ln
    have hg3 := grownBy_setCell' X (w.heap.size + 4) (.int .i64 ln)
    have bv3 := bv.kept hg3 (by simp)
    have hrow3 := hrow.kept hg3 (ownBlock_ne hrow (by omega))
    have hl3 : (X.setCell ⟨w.heap.size + 4, 0, none⟩ (.int .i64 ln)).heap[w.heap.size + 7]? = some (.loop { rec .ready none with state := .busy }) := (Below.heap_setCell _ _ _ _ (by simp)).trans hl2
    have hX := hI2.size
    gi_wp2_with (gi_at_builtin; refine stop_ ?_)
    · refine ⟨?_, trivial⟩
      refine wpListIn_append_own _ rfl _ _ 30 rfl (w.heap.size + 8) 38 i0 _ 3 32 Try.underlying30 hi hz0 hz1 hz2 rfl (by decide) _ _ _ rfl (hrow3.alloc _) ⟨X.heap.size, 0, none⟩ 1 1 [.int .i64 k, .string t, .int .i64 ln] rfl rfl (cells3 _ _ _ _ _ (by simp [World.setCell])) (by simp [Value.oneCell']) (by simp only [maxLen]; omega) (by omega) (by simp [World.setCell]; omega) ?_
      intro v' w1 hown' hgrow hnil'; obtain ⟨g', cap', rfl⟩ := ownsRow_succ hown'; obtain ⟨bv1, hI4, hk4⟩ := hI3.append (t := (k, t, ln)) bv3 hrow3 hown' hgrow (by simp); have hc1 := bv1.cell; have hf1 := bv1.frozen
      gi_wp2
      have hl5 := (hk4 _ (by omega) (by omega)).trans hl3
      have hk0 : (k != 0) = true := by assumption
      refine ⟨_, _, run_endRound none hl5, .inl ⟨by simpa using hk0, rfl, hI4.turn _, ?_⟩⟩
      rw [World.putObj_heap_same (Array.getElem?_eq_some_iff.1 hl5).1, hrec]; rfl
    · have hl3' := hl3
      generalize X.setCell _ _ = Y at hI3 hl3 ⊢
      have e0 := hI3.r0.cell; have e1 := hI3.r1.cell; have e2 := hI3.r2.cell; have e4 := hI3.line.cell
      have g0 := hI3.r0.frozen; have g1 := hI3.r1.frozen; have g2 := hI3.r2.frozen; have g4 := hI3.line.frozen
      clear hL hLf hV c0 c1 c2 f0 hT2 hI2 hl2 hrow hrow3 bv bv3 hg3
      gi_region
      all_goals gi_wp2
      all_goals
        rename_i hk0 ht0
        have hk : k = 0 := by simpa using hk0
        have ht : t.size ≠ 0 := by rw [empty_is] at ht0; have := of_decide_eq_true ht0; omega
        obtain ⟨q1, q2⟩ := ended hI3 (.loop { rec .ready none with state := .done, pending := some .ret })
        have hl5 := q1.trans hl3
        refine ⟨_, _, run_endRound (some .ret) hl5, .inr (.inr ⟨hk, ht, rfl, q2, ?_⟩)⟩
        rw [World.putObj_heap_same (Array.getElem?_eq_some_iff.1 hl5).1, hrec]; rfl
    · rename_i hk0 ht0
      refine ⟨_, _, run_endRound none hl3, .inr (.inl ⟨by simpa using hk0, ?_, rfl, hI3.turn _, ?_⟩)⟩
      · rw [empty_is] at ht0; have h9 := of_decide_eq_false ht0; exact ByteArray.size_eq_zero_iff.1 (Nat.eq_zero_of_not_pos h9)
      · rw [World.putObj_heap_same (Array.getElem?_eq_some_iff.1 hl3).1, hrec]; rfl
  have iter : ∀ (R : Ending → World → Prop),
      (∀ v acc r ln W', LInv w.heap.size w acc r ln W' → W'.heap[w.heap.size + 7]? = some (.loop (rec .ready none)) → d = .tuple [if acc.isEmpty then .nilS else .list 3 (acc.map tkD), .int .i64 ln, .int .i64 0] → R (.returned v) W') →
      (∀ v ln W', LEnd w.heap.size w ln W' → W'.heap[w.heap.size + 7]? = some (.loop (rec .done (some .ret))) → d = .tuple [.nilS, .int .i64 ln, .int .i64 21] → R (.returned v) W') →
      ∀ W0 : World, LInv w.heap.size w [] s 1 W0 → W0.heap[w.heap.size + 7]? = some (.loop (rec .ready none)) →
      CallsIn F (n - 1) Try.prog 42 #[.func (.yield (w.heap.size + 7)) #[] #[], .pointer (some ⟨w.heap.size + 5, 0, none⟩)] W0 R := by
    intro R ok1 ok2
    intro W0 hI0 hl0
    refine callsIn_of_wp Try.func42 rfl h42 ?_ hro
    simp only [Try.ntmps42, List.size_toArray, List.length_cons, List.length_nil, Nat.reduceAdd, Nat.reduceSub, Array.replicate_succ, Array.replicate_zero, List.push_toArray, List.append_toArray, List.nil_append, List.cons_append]
    clear hrec
    gi_wp2
    gi_loopw [3] (fun p wr => ∃ (m : Nat) (acc : List Tk) (r : ByteArray) (lc ln : Int), p = .int .i64 ln ∧ LInv w.heap.size w acc r lc wr ∧ wr.heap[w.heap.size + 7]? = some (.loop (rec .ready none)) ∧ lexLoop lexFns call m r ln (acc.map tkD) = some d ∧ acc.length ≤ 1000000) (fun p wr => strLen (w.heap.size + 5) wr)
    case atStart => exact ⟨_, [], s, 1, 1, rfl, hI0, hl0, hd, by simp⟩
    case round =>
      obtain ⟨m, acc, r, lc, ln, rfl, hI, hl, hx, hal⟩ := hrel
      cases m with
      | zero => cases hx
      | succ m =>
        rw [lexLoop] at hx
        have hS := hI.str.cell
        by_cases hr : r.size = 0
        · have he : r.toList.isEmpty = true := by have := empty_is r; rw [decide_eq_false (by omega)] at this; simpa using this
          obtain ⟨fn', tmps, assign, body, hy, hR⟩ := round acc r lc 0 r ln wr hal hI hl
          clear round H
          gi_wp2
          refine ⟨fun _ => by omega, hR.mono ?_⟩
          rintro e W3 (⟨hk, _⟩ | ⟨_, _, rfl, hI3, hl3⟩ | ⟨_, ht, _⟩)
          · exact absurd rfl hk
          · rw [if_pos hr] at hx
            have hx' := Option.some.inj hx
            clear hx ok2
            gi_wp2
            go_end0
            exact ok1 _ acc r ln _ hI3 hl3 (by rw [← hx']; simp)
          · exact absurd hr ht
        · have he : r.toList.isEmpty = false := by have := empty_is r; rw [decide_eq_true (by omega)] at this; simpa using this
          have h0 : 0 < r.size := by omega
          rw [if_neg hr] at hx
          obtain ⟨st, hst, hx⟩ := Option.bind_eq_some_iff.1 hx
          obtain ⟨k, more, hk, b, hb, hst⟩ := lexStep_inv hst
          have hlen : strLen (w.heap.size + 5) wr = r.size := strLen_of hI.str
          have hfin : ∀ n' : Int, 1 ≤ n' → n' ≤ (r.size : Int) → (r.extract n'.toNat r.size).size < r.size := fun n' h1 h2 => by rw [ByteArray.size_extract]; omega
          rw [lexC_eq h0] at hk
          gi_wp2_with (gi_at_call 43; refine stop_ ?_)
          refine ⟨fun _ => by omega, (H 43 [.int .u8 _] (.tuple [.int .i64 k, .str more]) _ _ hk rfl rfl _ _).mono ?_⟩
          rintro e w1 ⟨rfl, hg⟩
          have hI1 := hI.kept hg
          have hl1 : w1.heap[w.heap.size + 7]? = some (.loop (rec .ready none)) := (hg.block _ (hI.lt (by omega)) (by simp)).trans hl
          have hS1 := hI1.str.cell
          clear hS hI hl hg hk
          rcases lexBlank_inv hb with ⟨h35, rfl⟩ | ⟨h35, i, hi, rfl⟩
          · rw [lexC_eq h0] at h35
            obtain ⟨nl, n', hnl, hn', rfl⟩ : ∃ nl n', call 45 [.str r, .str more] = some (.int .i64 nl) ∧ call 46 [.str r] = some (.int .i64 n') ∧ st = (k, true, n') := by
              rcases hst with ⟨q, _⟩ | ⟨_, nl, q0, ⟨_, n', q1, q2⟩ | ⟨q, _⟩⟩
              · cases q
              · exact ⟨nl, n', q0, q1, q2⟩
              · cases q
            clear hst hb
            rw [if_neg (by simp)] at hx
            have hc := hx
            split at hc
            case isFalse => cases hc
            rename_i hb5
            rw [if_pos hb5] at hx
            clear hc
            obtain ⟨b1, b2, b3, b4, b5⟩ := hb5
            simp only at b1 b2 hx
            gi_wp2_with (gi_at_call 45; refine stop_ ?_)
            refine ⟨fun _ => by omega, (H 45 [.str _, .str _] (.int .i64 nl) _ _ hnl rfl rfl _ _).mono ?_⟩
            rintro e w2 ⟨rfl, hg⟩
            have hI2 := hI1.kept hg
            have hl2 : w2.heap[w.heap.size + 7]? = some (.loop (rec .ready none)) := (hg.block _ (hI1.lt (by omega)) (by simp)).trans hl1
            have hS2 := hI2.str.cell
            clear hS1 hI1 hl1 hg hnl
            gi_wp2_with (gi_at_call 46; refine stop_ ?_)
            refine ⟨fun _ => by omega, (H 46 [.str _] (.int .i64 n') _ _ hn' rfl rfl _ _).mono ?_⟩
            rintro e w3 ⟨rfl, hg⟩
            have hI3 := hI2.kept hg
            have hl3 : w3.heap[w.heap.size + 7]? = some (.loop (rec .ready none)) := (hg.block _ (hI2.lt (by omega)) (by simp)).trans hl2
            have hS3 := hI3.str.cell
            have hS3f := hI3.str.frozen
            clear hS2 hI2 hl2 hg hn'
            rw [lexC_eq h0, if_neg (by rw [h35]; decide)] at hx
            gi_wp2
            exact ⟨⟨m, acc, _, lc, ln, rfl, hI3.setStr _, (Below.heap_setCell _ _ _ _ (by simp)).trans hl3, hx, hal⟩, by rw [strLen_of (hI3.setStr _).str, hlen]; exact hfin _ b1 b2⟩
          · rw [lexC_eq h0] at h35 hi
            gi_wp2_with (gi_at_call 44; refine stop_ ?_)
            refine ⟨fun _ => by omega, (H 44 [.str lexBlanks, .int .u8 _] (.int .i64 i) _ _ hi rfl rfl _ _).mono ?_⟩
            rintro e w2 ⟨rfl, hg⟩
            have hI2 := hI1.kept hg
            have hl2 : w2.heap[w.heap.size + 7]? = some (.loop (rec .ready none)) := (hg.block _ (hI1.lt (by omega)) (by simp)).trans hl1
            have hS2 := hI2.str.cell
            clear hS1 hI1 hl1 hg hi hb
            have q35 : ((((r[0]'h0).toNat : Int)) == 35) = false := beq_eq_false_iff_ne.2 h35
            by_cases hi0 : 0 ≤ i
            · obtain ⟨nl, n', hnl, hn', rfl⟩ : ∃ nl n', call 45 [.str r, .str more] = some (.int .i64 nl) ∧ call 46 [.str r] = some (.int .i64 n') ∧ st = (k, true, n') := by
                rw [decide_eq_true hi0] at hst
                rcases hst with ⟨q, _⟩ | ⟨_, nl, q0, ⟨_, n', q1, q2⟩ | ⟨q, _⟩⟩
                · cases q
                · exact ⟨nl, n', q0, q1, q2⟩
                · cases q
              clear hst
              have qi : decide (0 ≤ i) = true := decide_eq_true hi0
              rw [if_neg (by simp)] at hx
              have hc := hx
              split at hc
              case isFalse => cases hc
              rename_i hb5
              rw [if_pos hb5] at hx
              clear hc
              obtain ⟨b1, b2, b3, b4, b5⟩ := hb5
              simp only at b1 b2 hx
              gi_wp2_with (gi_at_call 45; refine stop_ ?_)
              refine ⟨fun _ => by omega, (H 45 [.str _, .str _] (.int .i64 nl) _ _ hnl rfl rfl _ _).mono ?_⟩
              rintro e w4 ⟨rfl, hg⟩
              have hI4 := hI2.kept hg
              have hl4 : w4.heap[w.heap.size + 7]? = some (.loop (rec .ready none)) := (hg.block _ (hI2.lt (by omega)) (by simp)).trans hl2
              have hS4 := hI4.str.cell
              clear hS2 hI2 hl2 hg hnl
              gi_wp2_with (gi_at_call 46; refine stop_ ?_)
              refine ⟨fun _ => by omega, (H 46 [.str _] (.int .i64 n') _ _ hn' rfl rfl _ _).mono ?_⟩
              rintro e w3 ⟨rfl, hg⟩
              have hI3 := hI4.kept hg
              have hl3 : w3.heap[w.heap.size + 7]? = some (.loop (rec .ready none)) := (hg.block _ (hI4.lt (by omega)) (by simp)).trans hl4
              have hS3 := hI3.str.cell
              have hS3f := hI3.str.frozen
              clear hS4 hI4 hl4 hg hn'
              rw [lexC_eq h0] at hx
              by_cases h10 : ((r[0]'h0).toNat : Int) = 10
              · rw [if_pos h10] at hx
                have hw : IntKind.i64.wrap (ln + 1) = ln + 1 := wrapI (by omega) (by omega)
                gi_wp2
                exact ⟨⟨m, acc, _, lc, ln + 1, rfl, hI3.setStr _, (Below.heap_setCell _ _ _ _ (by simp)).trans hl3, hx, hal⟩, by rw [strLen_of (hI3.setStr _).str, hlen]; exact hfin _ b1 b2⟩
              · rw [if_neg h10] at hx
                gi_wp2
                exact ⟨⟨m, acc, _, lc, ln, rfl, hI3.setStr _, (Below.heap_setCell _ _ _ _ (by simp)).trans hl3, hx, hal⟩, by rw [strLen_of (hI3.setStr _).str, hlen]; exact hfin _ b1 b2⟩
            · by_cases hk0 : k = 0
              · subst hk0
                obtain rfl : st = (0, false, 0) := by
                  rw [decide_eq_false hi0] at hst
                  rcases hst with ⟨_, _, q⟩ | ⟨q, _⟩
                  · exact q
                  · exact absurd ⟨rfl, rfl⟩ q
                rw [if_pos ⟨rfl, rfl⟩] at hx
                have hx' := Option.some.inj hx
                clear hx hst ok1
                have qi : decide (0 ≤ i) = false := decide_eq_false hi0
                obtain ⟨fn', tmps, assign, body, hy, hR⟩ := round acc r lc 0 r ln w2 hal hI2 hl2
                clear round H
                gi_wp2
                refine ⟨fun _ => by omega, hR.mono ?_⟩
                rintro e W3 (⟨hk, _⟩ | ⟨_, ht, _⟩ | ⟨_, _, rfl, hI3, hl3⟩)
                · exact absurd rfl hk
                · exact absurd ht hr
                · gi_wp2
                  go_end0
                  exact ok2 _ ln _ hI3 hl3 hx'.symm
              · obtain ⟨n', hn', rfl⟩ : ∃ n', call 45 [.str r, .str more] = some (.int .i64 n') ∧ st = (k, false, n') := by
                  rw [decide_eq_false hi0] at hst
                  rcases hst with ⟨_, q, _⟩ | ⟨_, n', q0, ⟨q, _⟩ | ⟨_, q⟩⟩
                  · exact absurd q hk0
                  · cases q
                  · exact ⟨n', q0, q⟩
                clear hst
                have qi : decide (0 ≤ i) = false := decide_eq_false hi0
                have qk : (k == 0) = false := beq_eq_false_iff_ne.2 hk0
                rw [if_neg (fun q => hk0 q.2)] at hx
                have hc := hx
                split at hc
                case isFalse => cases hc
                rename_i hb5
                rw [if_pos hb5] at hx
                clear hc
                obtain ⟨b1, b2, b3, b4, b5⟩ := hb5
                simp only at b1 b2 hx
                gi_wp2_with (gi_at_call 45; refine stop_ ?_)
                refine ⟨fun _ => by omega, (H 45 [.str _, .str _] (.int .i64 n') _ _ hn' rfl rfl _ _).mono ?_⟩
                rintro e w4 ⟨rfl, hg⟩
                have hI4 := hI2.kept hg
                have hl4 : w4.heap[w.heap.size + 7]? = some (.loop (rec .ready none)) := (hg.block _ (hI2.lt (by omega)) (by simp)).trans hl2
                have hS4 := hI4.str.cell
                clear hS2 hI2 hl2 hg hn'
                obtain ⟨fn', tmps, assign, body, hy, hR⟩ := round acc r lc k (r.extract 0 n'.toNat) ln w4 hal hI4 hl4
                clear round H
                gi_wp2
                refine ⟨fun _ => by omega, hR.mono ?_⟩
                rintro e w3 (⟨_, rfl, hI3, hl3⟩ | ⟨hk, _⟩ | ⟨hk, _⟩)
                · have hS3 := hI3.str.cell
                  have hS3f := hI3.str.frozen
                  have hal4 : acc.length < 1000000 := by simpa using b3
                  clear hS4 hI4 hl4 hR
                  rw [lexC_eq h0] at hx
                  by_cases h10 : ((r[0]'h0).toNat : Int) = 10
                  · rw [if_pos h10] at hx
                    have hw : IntKind.i64.wrap (ln + 1) = ln + 1 := wrapI (by omega) (by omega)
                    gi_wp2
                    exact ⟨⟨m, acc ++ [(k, r.extract 0 n'.toNat, ln)], _, _, ln + 1, rfl, hI3.setStr _, (Below.heap_setCell _ _ _ _ (by simp)).trans hl3, by rw [List.map_append]; exact hx, by simp; omega⟩, by rw [strLen_of (hI3.setStr _).str, hlen]; exact hfin _ b1 b2⟩
                  · rw [if_neg h10] at hx
                    gi_wp2
                    exact ⟨⟨m, acc ++ [(k, r.extract 0 n'.toNat, ln)], _, _, ln, rfl, hI3.setStr _, (Below.heap_setCell _ _ _ _ (by simp)).trans hl3, by rw [List.map_append]; exact hx, by simp; omega⟩, by rw [strLen_of (hI3.setStr _).str, hlen]; exact hfin _ b1 b2⟩
                · exact absurd hk hk0
                · exact absurd hk hk0
  clear round
  refine iter _ ?_ ?_ _ ?_ ?_
  · intro v acc r ln W' hI hl hd'
    have hp : (rec .ready none).pending = none := by rw [hrec]
    have hq := run_endLoop (P := Try.prog) hl (by rw [hrec]; simp)
    rw [hp] at hq
    obtain ⟨Y, hY, hI'⟩ : ∃ Y, (Instr.endLoop (w.heap.size + 7)).run Try.prog W' = .ok none Y ∧ LInv w.heap.size w acc r ln Y := ⟨_, hq, hI.turn _⟩
    refine ⟨none, _, hY, ?_⟩
    clear iter H hrec hq hl hI hY
    obtain ⟨u, bu, hrow, hnil⟩ := hI'.row
    have e0 := hI'.r0.cell; have e1 := hI'.r1.cell; have e2 := hI'.r2.cell; have e3 := bu.cell; have e4 := hI'.line.cell
    have g0 := hI'.r0.frozen; have g1 := hI'.r1.frozen; have g2 := hI'.r2.frozen
    gi_wp2
    have hform : ∃ q m cap, u = .slice q m cap := by
      rcases hrow.2 with ⟨rfl, _⟩ | ⟨g, cap, cur, rfl, _⟩
      · exact ⟨_, _, _, rfl⟩
      · exact ⟨_, _, _, rfl⟩
    obtain ⟨q, mm, cap, rfl⟩ := hform
    have hw1 := hw0.out; clear hw0; subst hw1
    gi_region
    gi_wp2
    obtain ⟨Z, hZ, z1, z2, z3, z4, z5, z6⟩ := ended0 hI' hrow
    rw [← hZ]
    refine ⟨by simp, .inl ⟨_, _, rfl, run_takeDeferred z5, ?_⟩⟩
    have hg := grownBy_putObj' Z (w.heap.size + 6) (.deferred none)
    have y0 := (z2.kept hg (by simp)).cell
    have y1 := (z3.kept hg (by simp)).cell
    have y2 := (z4.kept hg (by simp)).cell
    refine ⟨.tuple #[.slice q mm cap, .int .i64 ln, .int .i64 0], ?_, _, _, _, rfl, z1.grown hg (by have := z2.lt; omega) (fun k e => by cases e; omega), .inl ⟨rfl, acc, z6.kept hg (ownBlock_ne z6 (by omega)), hnil, hd'⟩⟩
    simp [results, Try.f13, go_sem, y0, y1, y2]
  · intro v ln W' hE hl hd'
    have hp : (rec .done (some .ret)).pending = some .ret := by rw [hrec]
    have hq := run_endLoop (P := Try.prog) hl (by rw [hrec]; simp)
    rw [hp] at hq
    obtain ⟨Y, hY, hE'⟩ : ∃ Y, (Instr.endLoop (w.heap.size + 7)).run Try.prog W' = .ok (some .ret) Y ∧ LEnd w.heap.size w ln Y := ⟨_, hq, hE.turn _⟩
    refine ⟨some .ret, _, hY, ?_⟩
    clear iter H hrec hq hl hE hY
    gi_wp2
    have z5 := hE'.dfr
    refine ⟨by simp, .inl ⟨_, _, rfl, run_takeDeferred z5, ?_⟩⟩
    have hg := grownBy_putObj' Y (w.heap.size + 6) (.deferred none)
    have y0 := (hE'.r0.kept hg (by simp)).cell
    have y1 := (hE'.r1.kept hg (by simp)).cell
    have y2 := (hE'.r2.kept hg (by simp)).cell
    refine ⟨.tuple #[.slice none 0 0, .int .i64 ln, .int .i64 21], ?_, _, _, _, rfl, hE'.below.grown hg (by have := hE'.r0.lt; omega) (fun k e => by cases e; omega), .inr ⟨rfl, rfl, hd'⟩⟩
    simp [results, Try.f13, go_sem, y0, y1, y2]
  · clear iter H
    refine { below := ?_, size := by simp, r0 := ?_, r1 := ?_, r2 := ?_, line := ?_, str := ?_, row := ⟨.slice none 0 0, ?_, World.ownsRow_nil _ _ _ _, by simp⟩, dfr := ?_ }
    · exact (((((((((Below.refl _ w).alloc (by simp) _).alloc (by simp) _).alloc (by simp; omega) _).alloc (by simp; omega) _).alloc (by simp; omega) _).alloc (by simp; omega) _).alloc (by simp; omega) _).alloc (by simp; omega) _)
    all_goals
      simp only [Boxed, alloc_heap, Array.getElem?_push, Array.size_push]
      repeat rw [if_neg (by omega)]
      exact if_pos trivial
  · simp only [alloc_heap, Array.getElem?_push, Array.size_push]
    exact if_pos trivial
end Go.Proofs.YtlpbmajbalenjaaA
