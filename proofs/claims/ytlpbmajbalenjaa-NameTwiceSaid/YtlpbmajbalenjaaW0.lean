/- What each function answers, as a relation. -/
import Derived.Test.YtlpbmajbalenjaaB7
set_option linter.unusedVariables false
set_option maxRecDepth 100000
namespace Go.Proofs.YtlpbmajbalenjaaA
open Go Go.Proofs
abbrev T_string : Type := ByteArray
def E_string (p : T_string) : D := (.str p)
theorem E_string_t (p : T_string) : (E_string p).cells.all (D.isT 2) = true := rfl
abbrev T_bool : Type := Bool
def E_bool (p : T_bool) : D := (.bool p)
theorem E_bool_t (p : T_bool) : (E_bool p).cells.all (D.isT 2) = true := rfl
def law17_NameTwice_R (a0 : List T_string) (z : Bool) : Prop := LawIs C F 3 [(.list 1 (a0.map E_string))] z
def name_Twice_R (a0 : List T_string) (zt0 : ByteArray) (zt1 : Bool) : Prop := Ic C F 7 [(.list 1 (a0.map E_string))] (.tuple [(.str zt0), (.bool zt1)])
def ref17_Twice_R (a0 : List T_string) (zt0 : ByteArray) (zt1 : Bool) : Prop := Ic C F 8 [(.list 1 (a0.map E_string))] (.tuple [(.str zt0), (.bool zt1)])
def triviumbase_SameTexts_R (a0 : List T_string) (a1 : List T_string) (z : Bool) : Prop := Ic C F 9 [(.list 1 (a0.map E_string)), (.list 1 (a1.map E_string))] (.bool z)
def name_Keywords_R (z : List T_string) : Prop := Ic C F 10 [] (.list 1 (z.map E_string))
def ref17_Keywords_R (z : List T_string) : Prop := Ic C F 11 [] (.list 1 (z.map E_string))
def law17_works_R (z : Bool) : Prop := Ic C F 12 [] (.bool z)
end Go.Proofs.YtlpbmajbalenjaaA
