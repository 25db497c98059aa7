/- A text's tokens: the loop over a function, walked by hand (the round). -/
import Derived.RangeFuncNested
import Derived.RangeFuncBound
import Derived.RangeFuncCalls
import Derived.RangeFuncLeaves
import Derived.RangeFuncBox
import Derived.Shelf.Abstract
import Derived.Shelf.RegionOpen
import Derived.WalkKit
import Derived.OwnWalkIn
import Derived.TacticsInMore
import Derived.LoopNIn
import Derived.LoopIn
import Derived.Maps.AppendAt
import Derived.Test.YtlpbmajbalenjaaProg
set_option linter.unusedVariables false
set_option linter.unusedSimpArgs false
namespace Go.Proofs.YtlpbmajbalenjaaA
open Go Go.Proofs Go.RowKit Go.Shelf
attribute [local go_sem] Oper.semAt_some
abbrev Tk := Int × ByteArray × Int
def tkV (t : Tk) : List Value := [.int .i64 t.1, .string t.2.1, .int .i64 t.2.2]
def tksV (l : List Tk) : List Value := l.flatMap tkV
structure LInv (n : Nat) (w : World) (acc : List Tk) (s : ByteArray) (lc : Int) (W : World) : Prop where
 below : Below n w W
 size : n + 8 ≤ W.heap.size
 r0 : Boxed W n 30 (.slice none 0 0)
 r1 : Boxed W (n + 1) 3 (.int .i64 0)
 r2 : Boxed W (n + 2) 31 (.int .i64 0)
 line : Boxed W (n + 4) 3 (.int .i64 lc)
 str : Boxed W (n + 5) 9 (.string s)
 row : ∃ v, Boxed W (n + 3) 30 v ∧ W.ownsRow (n + 8) 38 3 v acc.length (tksV acc) ∧ (v = .slice none 0 0 ↔ acc = [])
 dfr : W.heap[n + 6]? = some (.deferred (some []))
section
variable {n : Nat} {w W W' : World} {acc : List Tk} {s : ByteArray} {lc : Int}
theorem LInv.kept (h : LInv n w acc s lc W) (hg : W.grownBy W' none) : LInv n w acc s lc W' where
 below := h.below.grown hg (by have := h.size; omega) (fun k e => by cases e)
 size := Nat.le_trans h.size hg.size
 r0 := h.r0.kept hg (by simp)
 r1 := h.r1.kept hg (by simp)
 r2 := h.r2.kept hg (by simp)
 line := h.line.kept hg (by simp)
 str := h.str.kept hg (by simp)
 row := by
  obtain ⟨v, a, b, c⟩ := h.row
  refine ⟨v, a.kept hg (by simp), b.kept hg ?_, c⟩
  cases e : v.ownBlock <;> simp
 dfr := (hg.block _ (by have := h.size; omega) (by simp)).trans h.dfr
theorem ownBlock_ne {base : Nat} {e : TypeId} {size : Nat} {v : Value} {k : Nat} {xs : List Value} (h : W.ownsRow base e size v k xs) {b : Nat} (hb : b < base) : v.ownBlock = none ∨ v.ownBlock ≠ some b :=
 .inr fun e => by have := (h.lt b e).1; omega
theorem LInv.setLine (h : LInv n w acc s lc W) (x : Int) : LInv n w acc s x (W.setCell ⟨n + 4, 0, none⟩ (.int .i64 x)) := by
  have hg := grownBy_setCell' W (n + 4) (.int .i64 x)
  exact { below := h.below.setCell (p := ⟨n + 4, 0, none⟩) (by simp) _
          size := Nat.le_trans h.size hg.size
          r0 := h.r0.kept hg (by simp)
          r1 := h.r1.kept hg (by simp)
          r2 := h.r2.kept hg (by simp)
          line := h.line.set _
          str := h.str.kept hg (by simp)
          row := by
            obtain ⟨v, a, b, c⟩ := h.row
            exact ⟨v, a.kept hg (by simp), b.kept hg (ownBlock_ne b (by omega)), c⟩
          dfr := (hg.block _ (by have := h.size; omega) (by simp)).trans h.dfr }
theorem LInv.setStr (h : LInv n w acc s lc W) (x : ByteArray) : LInv n w acc x lc (W.setCell ⟨n + 5, 0, none⟩ (.string x)) := by
  have hg := grownBy_setCell' W (n + 5) (.string x)
  exact { below := h.below.setCell (p := ⟨n + 5, 0, none⟩) (by simp) _
          size := Nat.le_trans h.size hg.size
          r0 := h.r0.kept hg (by simp)
          r1 := h.r1.kept hg (by simp)
          r2 := h.r2.kept hg (by simp)
          line := h.line.kept hg (by simp)
          str := h.str.set _
          row := by
            obtain ⟨v, a, b, c⟩ := h.row
            exact ⟨v, a.kept hg (by simp), b.kept hg (ownBlock_ne b (by omega)), c⟩
          dfr := (hg.block _ (by have := h.size; omega) (by simp)).trans h.dfr }
theorem LInv.turn (h : LInv n w acc s lc W) (o : Obj) : LInv n w acc s lc (W.putObj (n + 7) o) := by
  have hg := grownBy_putObj' W (n + 7) o
  exact { below := h.below.grown hg (by have := h.size; omega) (fun k e => by cases e; omega)
          size := Nat.le_trans h.size hg.size
          r0 := h.r0.kept hg (by simp)
          r1 := h.r1.kept hg (by simp)
          r2 := h.r2.kept hg (by simp)
          line := h.line.kept hg (by simp)
          str := h.str.kept hg (by simp)
          row := by
            obtain ⟨v, a, b, c⟩ := h.row
            exact ⟨v, a.kept hg (by simp), b.kept hg (ownBlock_ne b (by omega)), c⟩
          dfr := (hg.block _ (by have := h.size; omega) (by simp)).trans h.dfr }
theorem LInv.lt (h : LInv n w acc s lc W) {b : Nat} (hb : b < n + 8) : b < W.heap.size := Nat.lt_of_lt_of_le hb h.size
theorem LInv.append (h : LInv n w acc s lc W) {v v' : Value} {tmp : Obj} {w1 : World} {t : Tk} (bv : Boxed W (n + 3) 30 v) (hrow : W.ownsRow (n + 8) 38 3 v acc.length (tksV acc))
    (hown : w1.ownsRow (n + 8) 38 3 v' (acc.length + 1) (tksV acc ++ tkV t)) (hg : (W.alloc tmp).grownBy w1 v.ownBlock) (hne : v' ≠ .slice none 0 0) :
    Boxed w1 (n + 3) 30 v ∧ LInv n w (acc ++ [t]) s lc (w1.setCell ⟨n + 3, 0, none⟩ v') ∧ ∀ b, b < n + 8 → b ≠ n + 3 → (w1.setCell ⟨n + 3, 0, none⟩ v').heap[b]? = W.heap[b]? := by
  have ne : ∀ b, b < n + 8 → some b ≠ v.ownBlock := fun b hb e => by have := (hrow.lt b e.symm).1; omega
  have ne' : ∀ b, b < n + 8 → some b ≠ v'.ownBlock := fun b hb e => by have := (hown.lt b e.symm).1; omega
  have hs := h.size
  have h1 : Boxed w1 (n + 3) 30 v := (bv.alloc tmp).kept hg (ne _ (by omega))
  have hc := grownBy_setCell' w1 (n + 3) v'
  have keep : ∀ b, b < n + 8 → b ≠ n + 3 → (w1.setCell ⟨n + 3, 0, none⟩ v').heap[b]? = W.heap[b]? := fun b hb hn => by
    rw [Below.heap_setCell _ _ _ _ hn, hg.block b (by rw [World.size_alloc]; omega) (ne b hb), Below.heap_alloc _ _ _ (by omega)]
  refine ⟨h1, ?_, keep⟩
  exact { below := ((h.below.alloc (by omega) tmp).grown hg (by simp; omega) fun k e => by have := (hrow.lt k e).1; omega).setCell (p := ⟨n + 3, 0, none⟩) (by simp) _
          size := by have := hg.size; simp [World.setCell] at this ⊢; omega
          r0 := (keep _ (by omega) (by omega)).trans h.r0
          r1 := (keep _ (by omega) (by omega)).trans h.r1
          r2 := (keep _ (by omega) (by omega)).trans h.r2
          line := (keep _ (by omega) (by omega)).trans h.line
          str := (keep _ (by omega) (by omega)).trans h.str
          row := ⟨v', h1.set v', by
            have e : tksV (acc ++ [t]) = tksV acc ++ tkV t := by simp [tksV]
            rw [e, List.length_append]
            exact hown.kept hc (.inr (ne' _ (by omega)).symm), by simp [hne]⟩
          dfr := (keep _ (by omega) (by omega)).trans h.dfr }
theorem cells3 (W : World) (a b c : Value) (N : Nat) (hN : N = W.heap.size) (j : Nat) (u : Value) (h : [a, b, c][j]? = some u) : (W.alloc (.cells #[a, b, c] 38)).cell? ((⟨N, 0, none⟩ : Addr).add j) = some u := by
 subst hN
 have hn : (W.alloc (.cells #[a, b, c] 38)).heap[W.heap.size]? = some (.cells #[a, b, c] 38) := World.alloc_heap_new W _
 rcases j with _ | _ | _ | j
 ·cases h; show (match (W.alloc (.cells #[a, b, c] 38)).heap[W.heap.size]? with | some (Obj.cells c _ _) => _ | _ => _) = _; rw [hn]; rfl
 ·cases h; show (match (W.alloc (.cells #[a, b, c] 38)).heap[W.heap.size]? with | some (Obj.cells c _ _) => _ | _ => _) = _; rw [hn]; rfl
 ·cases h; show (match (W.alloc (.cells #[a, b, c] 38)).heap[W.heap.size]? with | some (Obj.cells c _ _) => _ | _ => _) = _; rw [hn]; rfl
 ·cases h
end
theorem stop_ {p : Prop} (h : p ∧ True) : p := h.1
theorem tokens_in (F : Fence) (n : Nat) (h5 : F.fn 31) (hro : F.round = none) (s : ByteArray) (w : World) :
  CallsIn F n Try.prog 31 #[.string s] w fun e w' => e = .returned (.func (.func 42) #[] #[.pointer (some ⟨w.heap.size, 0, none⟩)]) ∧ w' = w.alloc (.cells #[.string s] 9) := by
 refine callsIn_of_wp Try.func31 rfl h5 ?_ hro
 simp only [Try.ntmps31, List.size_toArray, List.length_cons, List.length_nil, Nat.reduceAdd, Nat.reduceSub, Array.replicate_succ, Array.replicate_zero, List.push_toArray, List.append_toArray, List.nil_append, List.cons_append]
 gi_wp2
 go_ret
 exact ⟨rfl, rfl⟩
end Go.Proofs.YtlpbmajbalenjaaA
