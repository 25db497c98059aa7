/- What each function answers, as a relation. -/
import Derived.Test.YtlpbmajbalenjaaBX
set_option linter.unusedVariables false
set_option maxRecDepth 100000
namespace Go.Proofs.YtlpbmajbalenjaaA
open Go Go.Proofs
abbrev T_lex_Token : Type := Int × ByteArray × Int
def E_lex_Token (p : T_lex_Token) : D := .agg [.int .i64 p.1, .str p.2.1, .int .i64 p.2.2]
abbrev T_ref19_Token : Type := Int × ByteArray × Int
abbrev T_string : Type := ByteArray
def law19_LexAgain_R (a : ByteArray) (z : Bool) : Prop := LawIs C F 5 [.str a] z
def lex_All_R (a : ByteArray) (b : List T_lex_Token) (c d : Int) : Prop := Ic C F 13 [.str a] (.tuple [(.list 3 (b.map E_lex_Token)), .int .i64 c, .int .i64 d])
def law19_works_R (z : Bool) : Prop := Ic C F 15 [] (.bool z)
def lex_kind_R (a b : Int) (c : ByteArray) : Prop := Ic C F 43 [.int .u8 a] (.tuple [.int .i64 b, .str c])
def strings_IndexByte_R (a : ByteArray) (b z : Int) : Prop := Ic C F 44 [.str a, .int .u8 b] (.int .i64 z)
def lex_length_R (a b : ByteArray) (z : Int) : Prop := Ic C F 45 [.str a, .str b] (.int .i64 z)
def lex_pass_R (a : ByteArray) (z : Int) : Prop := Ic C F 46 [.str a] (.int .i64 z)
def internal_stringslite_IndexByte_R (a : ByteArray) (b z : Int) : Prop := Ic C F 48 [.str a, .int .u8 b] (.int .i64 z)
def __lex_Reader__Name_v0_R (a : ByteArray) (b : Bool) : Prop := Ic C F 16 [.nilP] (.tuple [.str a, .bool b])
def __lex_Reader__Figure_v0_R (a : ByteArray) (b : Bool) : Prop := Ic C F 17 [.nilP] (.tuple [.str a, .bool b])
def __lex_Reader__Done_v0_R (z : Bool) : Prop := Ic C F 18 [.nilP] (.bool z)
def __lex_Reader__Line_v0_R (z : Int) : Prop := Ic C F 19 [.nilP] (.int .i64 z)
def __lex_Reader__Is_v0_R (a : ByteArray) (z : Bool) : Prop := Ic C F 20 [.nilP, .str a] (.bool z)
def __lex_Reader__Take_v0_R (a : ByteArray) (z : Bool) : Prop := Ic C F 21 [.nilP, .str a] (.bool z)
def __lex_Reader__take_v0_R (a : ByteArray) (b : Bool) : Prop := Ic C F 35 [.nilP, .fn 36 [] []] (.tuple [.str a, .bool b])
def __lex_Reader__take_v1_R (a : ByteArray) (b : Bool) : Prop := Ic C F 35 [.nilP, .fn 37 [] []] (.tuple [.str a, .bool b])
end Go.Proofs.YtlpbmajbalenjaaA
