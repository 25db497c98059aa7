/-
  No cell of these rows narrows 'for every input' (looked for: loops, veiled, ifaces, maps, wideKeys, modest, calm, conditions, laid).
  DERIVED. THE GIVEN ROWS OF THIS SEAT. 9 by the template 'for every input the law returns true; each argument reads behind the call as it read before'; 0 by the template 'total and deterministic' (their statements: YtcmajlphfnihgaaTotals.lean).
  GIVEN WITH THE SEED: the statements are not yours to turn. If you find one false, say at which input.
  Laid BY PROGRAM, IN A SANDBOX (cutbox-rows.mjs): the forced cells as the released guide's own fill.sh prints them over the translation 8ecbb0d4fb9bd193… (all of the seat's roots in one cut). By AI agents, Wed Nov 11 2026. No macro, syntax, notation, axiom, sorry.
-/
import Derived.Test.YtcmajlphfnihgaaChecked
import GoSem.Claim
import GoSem.ClaimJoined
import GoSem.ClaimMapViews
import Derived.JoinedTies
import Derived.KernelRfl
namespace Go.Proofs.Ytcmajlphfnihgaa
/- THE CELL 'sum', in the pinned program and in every row, IS THE sha256 OF THE DUMP (.gsa) THAT YtcmajlphfnihgaaProg.lean LOADS. Nothing in Lean hashes anything: it is a label: what it is worth is what the hold of that sum in a sandbox is worth. -/
noncomputable def Try.pinned : Pinned := { name := "ytcmajlphfnihgaa", sum := "8ecbb0d4fb9bd1930835d3b9907d69c2beac3d7a353affbbbaf01f4ca275bc7f", checked := Try.checked }
namespace Rows
def none {H : Type} : Left H := { results := [], args := [] }

/-- 'triviumlaw03.MulSmalls': WHATEVER THE INPUT: true; the input reads as it did. -/
def mulSmallsSpec : ChangeSpec := { name := "mulSmalls", fn := fun _ => fun
  | [d1, d2, d3] => { results := [.lit (.bool true)], args := [d1, d2, d3] }
  | _ => none }
def mulSmallsRow : OpenClaim := { program := "ytcmajlphfnihgaa", sum := "8ecbb0d4fb9bd1930835d3b9907d69c2beac3d7a353affbbbaf01f4ca275bc7f", func := "trivium/triviumlaw03.MulSmalls", spec := "mulSmalls", recurses := true, apart := false }
def MulSmallsSaid : Prop := mulSmallsRow.holds Try.pinned (OpenSpec.ofChange mulSmallsSpec)

/-- ITS FALSE NEIGHBOUR: 'it returns false'. Refute it at one input. -/
def mulSmallsWrong : ChangeSpec := { name := "mulSmalls", fn := fun _ => fun
  | [d1, d2, d3] => { results := [.lit (.bool false)], args := [d1, d2, d3] }
  | _ => none }
def MulSmallsWrongFalsely : Prop := mulSmallsRow.holds Try.pinned (OpenSpec.ofChange mulSmallsWrong)

/-- 'triviumlaw03.MulProducts': WHATEVER THE INPUT: true; the input reads as it did. -/
def mulProductsSpec : ChangeSpec := { name := "mulProducts", fn := fun _ => fun
  | [d1, d2] => { results := [.lit (.bool true)], args := [d1, d2] }
  | _ => none }
def mulProductsRow : OpenClaim := { program := "ytcmajlphfnihgaa", sum := "8ecbb0d4fb9bd1930835d3b9907d69c2beac3d7a353affbbbaf01f4ca275bc7f", func := "trivium/triviumlaw03.MulProducts", spec := "mulProducts", recurses := true, apart := false }
def MulProductsSaid : Prop := mulProductsRow.holds Try.pinned (OpenSpec.ofChange mulProductsSpec)

/-- ITS FALSE NEIGHBOUR: 'it returns false'. Refute it at one input. -/
def mulProductsWrong : ChangeSpec := { name := "mulProducts", fn := fun _ => fun
  | [d1, d2] => { results := [.lit (.bool false)], args := [d1, d2] }
  | _ => none }
def MulProductsWrongFalsely : Prop := mulProductsRow.holds Try.pinned (OpenSpec.ofChange mulProductsWrong)

/-- 'triviumlaw03.MulLaws': WHATEVER THE INPUT: true; the input reads as it did. -/
def mulLawsSpec : ChangeSpec := { name := "mulLaws", fn := fun _ => fun
  | [d1, d2, d3] => { results := [.lit (.bool true)], args := [d1, d2, d3] }
  | _ => none }
def mulLawsRow : OpenClaim := { program := "ytcmajlphfnihgaa", sum := "8ecbb0d4fb9bd1930835d3b9907d69c2beac3d7a353affbbbaf01f4ca275bc7f", func := "trivium/triviumlaw03.MulLaws", spec := "mulLaws", recurses := true, apart := false }
def MulLawsSaid : Prop := mulLawsRow.holds Try.pinned (OpenSpec.ofChange mulLawsSpec)

/-- ITS FALSE NEIGHBOUR: 'it returns false'. Refute it at one input. -/
def mulLawsWrong : ChangeSpec := { name := "mulLaws", fn := fun _ => fun
  | [d1, d2, d3] => { results := [.lit (.bool false)], args := [d1, d2, d3] }
  | _ => none }
def MulLawsWrongFalsely : Prop := mulLawsRow.holds Try.pinned (OpenSpec.ofChange mulLawsWrong)

/-- 'triviumlaw03.MulPowers': WHATEVER THE INPUT: true; the input reads as it did. -/
def mulPowersSpec : ChangeSpec := { name := "mulPowers", fn := fun _ => fun
  | [d1, d2, d3] => { results := [.lit (.bool true)], args := [d1, d2, d3] }
  | _ => none }
def mulPowersRow : OpenClaim := { program := "ytcmajlphfnihgaa", sum := "8ecbb0d4fb9bd1930835d3b9907d69c2beac3d7a353affbbbaf01f4ca275bc7f", func := "trivium/triviumlaw03.MulPowers", spec := "mulPowers", recurses := true, apart := false }
def MulPowersSaid : Prop := mulPowersRow.holds Try.pinned (OpenSpec.ofChange mulPowersSpec)

/-- ITS FALSE NEIGHBOUR: 'it returns false'. Refute it at one input. -/
def mulPowersWrong : ChangeSpec := { name := "mulPowers", fn := fun _ => fun
  | [d1, d2, d3] => { results := [.lit (.bool false)], args := [d1, d2, d3] }
  | _ => none }
def MulPowersWrongFalsely : Prop := mulPowersRow.holds Try.pinned (OpenSpec.ofChange mulPowersWrong)

/-- 'triviumlaw08.RatSmalls': WHATEVER THE INPUT: true; the input reads as it did. -/
def ratSmallsSpec : ChangeSpec := { name := "ratSmalls", fn := fun _ => fun
  | [d1, d2] => { results := [.lit (.bool true)], args := [d1, d2] }
  | _ => none }
def ratSmallsRow : OpenClaim := { program := "ytcmajlphfnihgaa", sum := "8ecbb0d4fb9bd1930835d3b9907d69c2beac3d7a353affbbbaf01f4ca275bc7f", func := "trivium/triviumlaw08.RatSmalls", spec := "ratSmalls", apart := false }
def RatSmallsSaid : Prop := ratSmallsRow.holds Try.pinned (OpenSpec.ofChange ratSmallsSpec)

/-- ITS FALSE NEIGHBOUR: 'it returns false'. Refute it at one input. -/
def ratSmallsWrong : ChangeSpec := { name := "ratSmalls", fn := fun _ => fun
  | [d1, d2] => { results := [.lit (.bool false)], args := [d1, d2] }
  | _ => none }
def RatSmallsWrongFalsely : Prop := ratSmallsRow.holds Try.pinned (OpenSpec.ofChange ratSmallsWrong)

/-- 'triviumlaw08.RatMakes': WHATEVER THE INPUT: true; the input reads as it did. -/
def ratMakesSpec : ChangeSpec := { name := "ratMakes", fn := fun _ => fun
  | [d1, d2, d3] => { results := [.lit (.bool true)], args := [d1, d2, d3] }
  | _ => none }
def ratMakesRow : OpenClaim := { program := "ytcmajlphfnihgaa", sum := "8ecbb0d4fb9bd1930835d3b9907d69c2beac3d7a353affbbbaf01f4ca275bc7f", func := "trivium/triviumlaw08.RatMakes", spec := "ratMakes", apart := false }
def RatMakesSaid : Prop := ratMakesRow.holds Try.pinned (OpenSpec.ofChange ratMakesSpec)

/-- ITS FALSE NEIGHBOUR: 'it returns false'. Refute it at one input. -/
def ratMakesWrong : ChangeSpec := { name := "ratMakes", fn := fun _ => fun
  | [d1, d2, d3] => { results := [.lit (.bool false)], args := [d1, d2, d3] }
  | _ => none }
def RatMakesWrongFalsely : Prop := ratMakesRow.holds Try.pinned (OpenSpec.ofChange ratMakesWrong)

/-- 'triviumlaw08.RatDivs': WHATEVER THE INPUT: true; the input reads as it did. -/
def ratDivsSpec : ChangeSpec := { name := "ratDivs", fn := fun _ => fun
  | [d1, d2] => { results := [.lit (.bool true)], args := [d1, d2] }
  | _ => none }
def ratDivsRow : OpenClaim := { program := "ytcmajlphfnihgaa", sum := "8ecbb0d4fb9bd1930835d3b9907d69c2beac3d7a353affbbbaf01f4ca275bc7f", func := "trivium/triviumlaw08.RatDivs", spec := "ratDivs", recurses := true, apart := false }
def RatDivsSaid : Prop := ratDivsRow.holds Try.pinned (OpenSpec.ofChange ratDivsSpec)

/-- ITS FALSE NEIGHBOUR: 'it returns false'. Refute it at one input. -/
def ratDivsWrong : ChangeSpec := { name := "ratDivs", fn := fun _ => fun
  | [d1, d2] => { results := [.lit (.bool false)], args := [d1, d2] }
  | _ => none }
def RatDivsWrongFalsely : Prop := ratDivsRow.holds Try.pinned (OpenSpec.ofChange ratDivsWrong)

/-- 'triviumlaw08.RatAdds': WHATEVER THE INPUT: true; the input reads as it did. -/
def ratAddsSpec : ChangeSpec := { name := "ratAdds", fn := fun _ => fun
  | [d1, d2] => { results := [.lit (.bool true)], args := [d1, d2] }
  | _ => none }
def ratAddsRow : OpenClaim := { program := "ytcmajlphfnihgaa", sum := "8ecbb0d4fb9bd1930835d3b9907d69c2beac3d7a353affbbbaf01f4ca275bc7f", func := "trivium/triviumlaw08.RatAdds", spec := "ratAdds", recurses := true, apart := false }
def RatAddsSaid : Prop := ratAddsRow.holds Try.pinned (OpenSpec.ofChange ratAddsSpec)

/-- ITS FALSE NEIGHBOUR: 'it returns false'. Refute it at one input. -/
def ratAddsWrong : ChangeSpec := { name := "ratAdds", fn := fun _ => fun
  | [d1, d2] => { results := [.lit (.bool false)], args := [d1, d2] }
  | _ => none }
def RatAddsWrongFalsely : Prop := ratAddsRow.holds Try.pinned (OpenSpec.ofChange ratAddsWrong)

/-- 'triviumlaw08.RatField': WHATEVER THE INPUT: true; the input reads as it did. -/
def ratFieldSpec : ChangeSpec := { name := "ratField", fn := fun _ => fun
  | [d1, d2, d3] => { results := [.lit (.bool true)], args := [d1, d2, d3] }
  | _ => none }
def ratFieldRow : OpenClaim := { program := "ytcmajlphfnihgaa", sum := "8ecbb0d4fb9bd1930835d3b9907d69c2beac3d7a353affbbbaf01f4ca275bc7f", func := "trivium/triviumlaw08.RatField", spec := "ratField", recurses := true, apart := false }
def RatFieldSaid : Prop := ratFieldRow.holds Try.pinned (OpenSpec.ofChange ratFieldSpec)

/-- ITS FALSE NEIGHBOUR: 'it returns false'. Refute it at one input. -/
def ratFieldWrong : ChangeSpec := { name := "ratField", fn := fun _ => fun
  | [d1, d2, d3] => { results := [.lit (.bool false)], args := [d1, d2, d3] }
  | _ => none }
def RatFieldWrongFalsely : Prop := ratFieldRow.holds Try.pinned (OpenSpec.ofChange ratFieldWrong)

/- THE SECOND FORM. 'bulk': how many values and letters a reading holds, each counted each time it is reached (what is shared counts as often as it is met; a slice's spare places count too). A statement '..UptoSaid' is the law's where the arguments, and the package variables that the reading takes, are together of bulk at most 1048576: NARROWER than '..Said'. Prove '..Said' where nothing that the law and all that it calls make is longer than what came in: it says more and counts as full. Else prove '..UptoSaid'. A law counts once. -/
mutual
def uptoBulk {H : Type} : DataW H → Nat
  | .lit (.string bytes) => bytes.length + 1
  | .lit _ => 1
  | .nil => 1
  | .ptr d => uptoBulk d + 1
  | .slice elems spare => uptoBulkAll elems + uptoBulkAll spare + 1
  | .agg parts => uptoBulkAll parts + 1
  | .iface _ d => uptoBulk d + 1
  | .map entries => uptoBulkEntries entries + 1
  | .held _ => 1
def uptoBulkAll {H : Type} : List (DataW H) → Nat
  | [] => 0
  | d :: r => uptoBulk d + uptoBulkAll r
def uptoBulkEntries {H : Type} : List (Lit × DataW H) → Nat
  | [] => 0
  | x :: r => uptoBulkEntry x + uptoBulkEntries r
def uptoBulkEntry {H : Type} : Lit × DataW H → Nat
  | (.string bytes, d) => bytes.length + uptoBulk d + 1
  | (_, d) => uptoBulk d + 1
 end
def uptoSmall : (H : Type) → List (DataW H) → Bool := fun _ ds => decide (uptoBulkAll ds ≤ 1048576)
def OpenSpec.upto (s : _root_.Go.ChangeSpec) : _root_.Go.OpenSpec := { _root_.Go.OpenSpec.ofChange s with cond := some uptoSmall }

/-- 'triviumlaw03.MulSmalls', WHERE WHAT IT READS IS OF BULK AT MOST 1048576: true; the input reads as it did. -/
def mulSmallsUptoRow : OpenClaim := { program := "ytcmajlphfnihgaa", sum := "8ecbb0d4fb9bd1930835d3b9907d69c2beac3d7a353affbbbaf01f4ca275bc7f", func := "trivium/triviumlaw03.MulSmalls", spec := "mulSmalls", recurses := true, apart := false, narrowed := true }
def MulSmallsUptoSaid : Prop := mulSmallsUptoRow.holds Try.pinned (OpenSpec.upto mulSmallsSpec)

/-- 'triviumlaw03.MulProducts', WHERE WHAT IT READS IS OF BULK AT MOST 1048576: true; the input reads as it did. -/
def mulProductsUptoRow : OpenClaim := { program := "ytcmajlphfnihgaa", sum := "8ecbb0d4fb9bd1930835d3b9907d69c2beac3d7a353affbbbaf01f4ca275bc7f", func := "trivium/triviumlaw03.MulProducts", spec := "mulProducts", recurses := true, apart := false, narrowed := true }
def MulProductsUptoSaid : Prop := mulProductsUptoRow.holds Try.pinned (OpenSpec.upto mulProductsSpec)

/-- 'triviumlaw03.MulLaws', WHERE WHAT IT READS IS OF BULK AT MOST 1048576: true; the input reads as it did. -/
def mulLawsUptoRow : OpenClaim := { program := "ytcmajlphfnihgaa", sum := "8ecbb0d4fb9bd1930835d3b9907d69c2beac3d7a353affbbbaf01f4ca275bc7f", func := "trivium/triviumlaw03.MulLaws", spec := "mulLaws", recurses := true, apart := false, narrowed := true }
def MulLawsUptoSaid : Prop := mulLawsUptoRow.holds Try.pinned (OpenSpec.upto mulLawsSpec)

/-- 'triviumlaw03.MulPowers', WHERE WHAT IT READS IS OF BULK AT MOST 1048576: true; the input reads as it did. -/
def mulPowersUptoRow : OpenClaim := { program := "ytcmajlphfnihgaa", sum := "8ecbb0d4fb9bd1930835d3b9907d69c2beac3d7a353affbbbaf01f4ca275bc7f", func := "trivium/triviumlaw03.MulPowers", spec := "mulPowers", recurses := true, apart := false, narrowed := true }
def MulPowersUptoSaid : Prop := mulPowersUptoRow.holds Try.pinned (OpenSpec.upto mulPowersSpec)

/-- 'triviumlaw08.RatSmalls', WHERE WHAT IT READS IS OF BULK AT MOST 1048576: true; the input reads as it did. -/
def ratSmallsUptoRow : OpenClaim := { program := "ytcmajlphfnihgaa", sum := "8ecbb0d4fb9bd1930835d3b9907d69c2beac3d7a353affbbbaf01f4ca275bc7f", func := "trivium/triviumlaw08.RatSmalls", spec := "ratSmalls", apart := false, narrowed := true }
def RatSmallsUptoSaid : Prop := ratSmallsUptoRow.holds Try.pinned (OpenSpec.upto ratSmallsSpec)

/-- 'triviumlaw08.RatMakes', WHERE WHAT IT READS IS OF BULK AT MOST 1048576: true; the input reads as it did. -/
def ratMakesUptoRow : OpenClaim := { program := "ytcmajlphfnihgaa", sum := "8ecbb0d4fb9bd1930835d3b9907d69c2beac3d7a353affbbbaf01f4ca275bc7f", func := "trivium/triviumlaw08.RatMakes", spec := "ratMakes", apart := false, narrowed := true }
def RatMakesUptoSaid : Prop := ratMakesUptoRow.holds Try.pinned (OpenSpec.upto ratMakesSpec)

/-- 'triviumlaw08.RatDivs', WHERE WHAT IT READS IS OF BULK AT MOST 1048576: true; the input reads as it did. -/
def ratDivsUptoRow : OpenClaim := { program := "ytcmajlphfnihgaa", sum := "8ecbb0d4fb9bd1930835d3b9907d69c2beac3d7a353affbbbaf01f4ca275bc7f", func := "trivium/triviumlaw08.RatDivs", spec := "ratDivs", recurses := true, apart := false, narrowed := true }
def RatDivsUptoSaid : Prop := ratDivsUptoRow.holds Try.pinned (OpenSpec.upto ratDivsSpec)

/-- 'triviumlaw08.RatAdds', WHERE WHAT IT READS IS OF BULK AT MOST 1048576: true; the input reads as it did. -/
def ratAddsUptoRow : OpenClaim := { program := "ytcmajlphfnihgaa", sum := "8ecbb0d4fb9bd1930835d3b9907d69c2beac3d7a353affbbbaf01f4ca275bc7f", func := "trivium/triviumlaw08.RatAdds", spec := "ratAdds", recurses := true, apart := false, narrowed := true }
def RatAddsUptoSaid : Prop := ratAddsUptoRow.holds Try.pinned (OpenSpec.upto ratAddsSpec)

/-- 'triviumlaw08.RatField', WHERE WHAT IT READS IS OF BULK AT MOST 1048576: true; the input reads as it did. -/
def ratFieldUptoRow : OpenClaim := { program := "ytcmajlphfnihgaa", sum := "8ecbb0d4fb9bd1930835d3b9907d69c2beac3d7a353affbbbaf01f4ca275bc7f", func := "trivium/triviumlaw08.RatField", spec := "ratField", recurses := true, apart := false, narrowed := true }
def RatFieldUptoSaid : Prop := ratFieldUptoRow.holds Try.pinned (OpenSpec.upto ratFieldSpec)

end Rows
end Go.Proofs.Ytcmajlphfnihgaa
