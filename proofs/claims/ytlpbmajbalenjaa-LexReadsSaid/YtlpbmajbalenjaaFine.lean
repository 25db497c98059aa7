/- What is to be known of the program, ahead: its orders, its names, its drawn regions. -/
import Derived.Test.YtlpbmajbalenjaaBX
import Derived.Test.YtlpbmajbalenjaaLex3
set_option linter.unusedVariables false
set_option maxRecDepth 100000
namespace Go.Proofs.YtlpbmajbalenjaaA
open Go Go.Proofs
def nameOk (fn : Func) : Bool := !(fn.name == "runtime.NumGoroutine")
def drawsOk (C : Cx) (f : Nat) (fn : Func) : Bool := match fn.body with | some c => !C.ok f || okCode C f c | none => true
theorem names_ok : Try.prog.funcs.toList.all nameOk = true := by kernel_rfl
theorem draws_ok : Try.prog.funcs.toList.zipIdx.all (fun p => drawsOk C p.2 p.1) = true := by kernel_rfl
theorem fine : Fine C where
 mixed := Try.checked.mixed
 name := by
  intro f fn h
  have := List.all_eq_true.1 names_ok fn (List.mem_of_getElem? (i := f) (by rw [← h]; exact Array.getElem?_toList ..))
  unfold nameOk at this
  simpa using this
 draws := by
  intro f fn c ho h hb
  have hm : Try.prog.funcs.toList.zipIdx[f]? = some (fn, f) := by
   rw [List.getElem?_zipIdx, show Try.prog.funcs.toList[f]? = some fn by rw [← h]; exact Array.getElem?_toList ..]
   simp
  have := List.all_eq_true.1 draws_ok _ (List.mem_of_getElem? hm)
  unfold drawsOk at this
  simp only [hb, ho, Bool.not_true, Bool.false_or] at this
  exact this
 orc := by first | exact lex_ok rfl rfl | exact fun _ _ _ _ _ e => by cases e
end Go.Proofs.YtlpbmajbalenjaaA
