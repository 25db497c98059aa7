/- What each function answers, as a relation. -/
import Derived.Test.YtlpbmajbalenjaaBX
set_option linter.unusedVariables false
set_option maxRecDepth 100000
namespace Go.Proofs.YtlpbmajbalenjaaA
open Go Go.Proofs
abbrev T_lex_Token : Type := Int × ByteArray × Int
def E_lex_Token (p : T_lex_Token) : D := .agg [.int .i64 p.1, .str p.2.1, .int .i64 p.2.2]
abbrev T_ref19_Token : Type := Int × ByteArray × Int
def E_ref19_Token (p : T_ref19_Token) : D := .agg [.int .i64 p.1, .str p.2.1, .int .i64 p.2.2]
theorem E_ref19_Token_t (p : T_ref19_Token) : (E_ref19_Token p).cells.all (D.isT 2) = true := rfl
abbrev T_string : Type := ByteArray
def law19_LexTokens_R (a : ByteArray) (z : Bool) : Prop := LawIs C F 4 [.str a] z
def lex_All_R (a : ByteArray) (b : List T_lex_Token) (c d : Int) : Prop := Ic C F 13 [.str a] (.tuple [(.list 3 (b.map E_lex_Token)), .int .i64 c, .int .i64 d])
def ref19_All_R (a : ByteArray) (b : List T_ref19_Token) (c d : Int) : Prop := Ic C F 14 [.str a] (.tuple [(.list 3 (b.map E_ref19_Token)), .int .i64 c, .int .i64 d])
def law19_works_R (z : Bool) : Prop := Ic C F 15 [] (.bool z)
def ref19_mark_R (a : Int) (z : Bool) : Prop := Ic C F 32 [.int .u8 a] (.bool z)
def ref19_figure_R (a : Int) (z : Bool) : Prop := Ic C F 33 [.int .u8 a] (.bool z)
def ref17_Word_R (a : ByteArray) (z : Bool) : Prop := Ic C F 34 [.str a] (.bool z)
def lex_kind_R (a b : Int) (c : ByteArray) : Prop := Ic C F 43 [.int .u8 a] (.tuple [.int .i64 b, .str c])
def strings_IndexByte_R (a : ByteArray) (b z : Int) : Prop := Ic C F 44 [.str a, .int .u8 b] (.int .i64 z)
def lex_length_R (a b : ByteArray) (z : Int) : Prop := Ic C F 45 [.str a, .str b] (.int .i64 z)
def lex_pass_R (a : ByteArray) (z : Int) : Prop := Ic C F 46 [.str a] (.int .i64 z)
def internal_stringslite_IndexByte_R (a : ByteArray) (b z : Int) : Prop := Ic C F 48 [.str a, .int .u8 b] (.int .i64 z)
end Go.Proofs.YtlpbmajbalenjaaA
