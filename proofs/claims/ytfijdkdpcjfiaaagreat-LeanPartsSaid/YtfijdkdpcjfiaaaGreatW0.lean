/- What each function answers, as a relation. -/
import Derived.Test.YtfijdkdpcjfiaaaGreatB9
set_option linter.unusedVariables false
set_option maxRecDepth 100000
namespace Go.Proofs.YtfijdkdpcjfiaaaGreatA
open Go Go.Proofs
abbrev T_api_Prefix : Type := Int × Int
def E_api_Prefix (p : T_api_Prefix) : D := .agg [.int .u32 p.1, .int .i64 p.2]
theorem E_api_Prefix_t (p : T_api_Prefix) : (E_api_Prefix p).cells.all (D.isT 2) = true := rfl
abbrev T_api_Node : Type := ByteArray × (List T_api_Prefix)
def E_api_Node (p : T_api_Node) : D := .agg [.str p.1, (.list 2 (List.map E_api_Prefix p.2))]
theorem E_api_Node_t (p : T_api_Node) : (E_api_Node p).cells.all (D.isT 2) = true := rfl
abbrev T_api_Link : Type := ByteArray × ByteArray × ByteArray × Bool × (List Int) × (List Int)
def E_api_Link (p : T_api_Link) : D := .agg [.str p.1, .str p.2.1, .str p.2.2.1, .bool p.2.2.2.1, .ints .u64 p.2.2.2.2.1, .ints .u64 p.2.2.2.2.2]
theorem E_api_Link_t (p : T_api_Link) : (E_api_Link p).cells.all (D.isT 2) = true := rfl
abbrev T_api_Hop : Type := ByteArray × Int
def E_api_Hop (p : T_api_Hop) : D := .agg [.str p.1, .int .i64 p.2]
theorem E_api_Hop_t (p : T_api_Hop) : (E_api_Hop p).cells.all (D.isT 2) = true := rfl
abbrev T46 : Type := List T_api_Hop
def E46 (p : T46) : D := (.list 2 (List.map E_api_Hop p))
theorem E46_t (p : T46) : (E46 p).cells.all (D.isT 2) = true := rfl
abbrev T_api_Rule : Type := ByteArray × Int × Int × Bool × (List T46)
def E_api_Rule (p : T_api_Rule) : D := .agg [.str p.1, .int .u32 p.2.1, .int .i64 p.2.2.1, .bool p.2.2.2.1, (.list 1 (List.map E46 p.2.2.2.2))]
theorem E_api_Rule_t (p : T_api_Rule) : (E_api_Rule p).cells.all (D.isT 2) = true := rfl
abbrev T_api_Net : Type := ByteArray × (List T_api_Node) × (List T_api_Link) × (List T_api_Rule)
def E_api_Net (p : T_api_Net) : D := .agg [.str p.1, (.list 2 (List.map E_api_Node p.2.1)), (.list 6 (List.map E_api_Link p.2.2.1)), (.list 5 (List.map E_api_Rule p.2.2.2))]
theorem E_api_Net_t (p : T_api_Net) : (E_api_Net p).cells.all (D.isT 2) = true := rfl
abbrev T_string : Type := ByteArray
def law45_LeanParts_R (a0 : List T_api_Net) (a1 : Int) (a2_0 : ByteArray) (a2_1 : Int) (a2_2 : Int) (a2_3 : Bool) (a2_4 : List T46) (a3_0 : ByteArray) (a3_1 : Int) (a3_2 : Int) (a3_3 : Bool) (a3_4 : List T46) (a4_0 : Int) (a4_1 : Int) (z : Bool) : Prop := LawIs C F 3 [(.list 4 (a0.map E_api_Net)), .int .i64 a1, (.agg [.str a2_0, .int .u32 a2_1, .int .i64 a2_2, .bool a2_3, (.list 1 (a2_4.map E46))]), (.agg [.str a3_0, .int .u32 a3_1, .int .i64 a3_2, .bool a3_3, (.list 1 (a3_4.map E46))]), (.agg [.int .u32 a4_0, .int .i64 a4_1])] z
def law30_One_R (a0 : List T_api_Net) (z_0 : ByteArray) (z_1 : List T_api_Node) (z_2 : List T_api_Link) (z_3 : List T_api_Rule) : Prop := Ic C F 4 [(.list 4 (a0.map E_api_Net))] (.agg [.str z_0, (.list 2 (z_1.map E_api_Node)), (.list 6 (z_2.map E_api_Link)), (.list 5 (z_3.map E_api_Rule))])
def ref22_CleanRule_R (a0_0 : ByteArray) (a0_1 : Int) (a0_2 : Int) (a0_3 : Bool) (a0_4 : List T46) (z_0 : ByteArray) (z_1 : Int) (z_2 : Int) (z_3 : Bool) (z_4 : List T46) : Prop := Ic C F 5 [(.agg [.str a0_0, .int .u32 a0_1, .int .i64 a0_2, .bool a0_3, (.list 1 (a0_4.map E46))])] (.agg [.str z_0, .int .u32 z_1, .int .i64 z_2, .bool z_3, (.list 1 (z_4.map E46))])
def lean_Cover_R (a0_0 : ByteArray) (a0_1 : List T_api_Node) (a0_2 : List T_api_Link) (a0_3 : List T_api_Rule) (a1 : Int) (zt0 : Int) (zt1 : Bool) : Prop := Ic C F 6 [(.agg [.str a0_0, (.list 2 (a0_1.map E_api_Node)), (.list 6 (a0_2.map E_api_Link)), (.list 5 (a0_3.map E_api_Rule))]), .int .i64 a1] (.tuple [.int .i64 zt0, .bool zt1])
def ref45_Cover_R (a0_0 : ByteArray) (a0_1 : List T_api_Node) (a0_2 : List T_api_Link) (a0_3 : List T_api_Rule) (a1 : Int) (z : Int) : Prop := Ic C F 7 [(.agg [.str a0_0, (.list 2 (a0_1.map E_api_Node)), (.list 6 (a0_2.map E_api_Link)), (.list 5 (a0_3.map E_api_Rule))]), .int .i64 a1] (.int .i64 z)
def lean_Half_R (a0_0 : Int) (a0_1 : Int) (zt0_0 : Int) (zt0_1 : Int) (zt1_0 : Int) (zt1_1 : Int) (zt2 : Bool) : Prop := Ic C F 8 [(.agg [.int .u32 a0_0, .int .i64 a0_1])] (.tuple [(.agg [.int .u32 zt0_0, .int .i64 zt0_1]), (.agg [.int .u32 zt1_0, .int .i64 zt1_1]), .bool zt2])
def ref45_Half_R (a0_0 : Int) (a0_1 : Int) (zt0_0 : Int) (zt0_1 : Int) (zt1_0 : Int) (zt1_1 : Int) (zt2 : Bool) : Prop := Ic C F 9 [(.agg [.int .u32 a0_0, .int .i64 a0_1])] (.tuple [(.agg [.int .u32 zt0_0, .int .i64 zt0_1]), (.agg [.int .u32 zt1_0, .int .i64 zt1_1]), .bool zt2])
def lean_Alike_R (a0_0 : ByteArray) (a0_1 : Int) (a0_2 : Int) (a0_3 : Bool) (a0_4 : List T46) (a1_0 : ByteArray) (a1_1 : Int) (a1_2 : Int) (a1_3 : Bool) (a1_4 : List T46) (z : Bool) : Prop := Ic C F 10 [(.agg [.str a0_0, .int .u32 a0_1, .int .i64 a0_2, .bool a0_3, (.list 1 (a0_4.map E46))]), (.agg [.str a1_0, .int .u32 a1_1, .int .i64 a1_2, .bool a1_3, (.list 1 (a1_4.map E46))])] (.bool z)
def ref45_Alike_R (a0_0 : ByteArray) (a0_1 : Int) (a0_2 : Int) (a0_3 : Bool) (a0_4 : List T46) (a1_0 : ByteArray) (a1_1 : Int) (a1_2 : Int) (a1_3 : Bool) (a1_4 : List T46) (z : Bool) : Prop := Ic C F 11 [(.agg [.str a0_0, .int .u32 a0_1, .int .i64 a0_2, .bool a0_3, (.list 1 (a0_4.map E46))]), (.agg [.str a1_0, .int .u32 a1_1, .int .i64 a1_2, .bool a1_3, (.list 1 (a1_4.map E46))])] (.bool z)
def law45_works_R (z : Bool) : Prop := Ic C F 12 [] (.bool z)
def ref22_Clean_R (a0 : List T_api_Net) (z : List T_api_Net) : Prop := Ic C F 13 [(.list 4 (a0.map E_api_Net))] (.list 4 (z.map E_api_Net))
def ref22_short_R (a0 : ByteArray) (z : ByteArray) : Prop := Ic C F 14 [.str a0] (.str z)
def addr_Within_R (a0_0 : Int) (a0_1 : Int) (a1_0 : Int) (a1_1 : Int) (z : Bool) : Prop := Ic C F 15 [(.agg [.int .u32 a0_0, .int .i64 a0_1]), (.agg [.int .u32 a1_0, .int .i64 a1_1])] (.bool z)
def ref18_May_R (a0_0 : Int) (a0_1 : Int) (z : Bool) : Prop := Ic C F 16 [(.agg [.int .u32 a0_0, .int .i64 a0_1])] (.bool z)
def ref18_Has_R (a0_0 : Int) (a0_1 : Int) (a1 : Int) (z : Bool) : Prop := Ic C F 17 [(.agg [.int .u32 a0_0, .int .i64 a0_1]), .int .u32 a1] (.bool z)
def addr_May_R (a0_0 : Int) (a0_1 : Int) (z : Bool) : Prop := Ic C F 18 [(.agg [.int .u32 a0_0, .int .i64 a0_1])] (.bool z)
def ref18_Size_R (a0 : Int) (z : Int) : Prop := Ic C F 19 [.int .i64 a0] (.int .u64 z)
def lean_Alike_1_R (a0 : List T_api_Hop) (a1 : List T_api_Hop) (z : Bool) : Prop := Ic C F 21 [(.list 2 (a0.map E_api_Hop)), (.list 2 (a1.map E_api_Hop))] (.bool z)
def slices_Equal___api_Hop_api_Hop__R (a0 : List T_api_Hop) (a1 : List T_api_Hop) (z : Bool) : Prop := Ic C F 22 [(.list 2 (a0.map E_api_Hop)), (.list 2 (a1.map E_api_Hop))] (.bool z)
def ref08_Clean_R (a0_0 : Bool) (a0_1 : List Int) (a0_2 : List Int) (a1 : Int) (z_0 : Bool) (z_1 : List Int) (z_2 : List Int) : Prop := Ic C F 24 [(.agg [.bool a0_0, .ints .u64 a0_1, .ints .u64 a0_2]), .int .i64 a1] (.agg [.bool z_0, .ints .u64 z_1, .ints .u64 z_2])
def addr_Has_R (a0_0 : Int) (a0_1 : Int) (a1 : Int) (z : Bool) : Prop := Ic C F 25 [(.agg [.int .u32 a0_0, .int .i64 a0_1]), .int .u32 a1] (.bool z)
def addr_Mask_R (a0 : Int) (z : Int) : Prop := Ic C F 26 [.int .i64 a0] (.int .u32 z)
def ref02_Clean_R (a0 : List Int) (a1 : Int) (z : List Int) : Prop := Ic C F 31 [.ints .u64 a0, .int .i64 a1] (.ints .u64 z)
def ref08_Back_R (a0_0 : Bool) (a0_1 : List Int) (a0_2 : List Int) (z_0 : Bool) (z_1 : List Int) (z_2 : List Int) : Prop := Ic C F 32 [(.agg [.bool a0_0, .ints .i64 a0_1, .ints .i64 a0_2])] (.agg [.bool z_0, .ints .u64 z_1, .ints .u64 z_2])
def ref08_Low_R (a0_0 : Bool) (a0_1 : List Int) (a1 : List Int) (z_0 : Bool) (z_1 : List Int) (z_2 : List Int) : Prop := Ic C F 33 [(.agg [.bool a0_0, .ints .i64 a0_1]), .ints .i64 a1] (.agg [.bool z_0, .ints .i64 z_1, .ints .i64 z_2])
def ref07_Of_R (a0_0 : Bool) (a0_1 : List Int) (z_0 : Bool) (z_1 : List Int) : Prop := Ic C F 34 [(.agg [.bool a0_0, .ints .u64 a0_1])] (.agg [.bool z_0, .ints .i64 z_1])
def ref07_Clean_R (a0_0 : Bool) (a0_1 : List Int) (a1 : Int) (z_0 : Bool) (z_1 : List Int) : Prop := Ic C F 35 [(.agg [.bool a0_0, .ints .u64 a0_1]), .int .i64 a1] (.agg [.bool z_0, .ints .u64 z_1])
def ref02_Of_R (a0 : List Int) (z : List Int) : Prop := Ic C F 36 [.ints .u64 a0] (.ints .i64 z)
def ref07_Back_R (a0_0 : Bool) (a0_1 : List Int) (z_0 : Bool) (z_1 : List Int) : Prop := Ic C F 47 [(.agg [.bool a0_0, .ints .i64 a0_1])] (.agg [.bool z_0, .ints .u64 z_1])
def ref02_Back_R (a0 : List Int) (z : List Int) : Prop := Ic C F 48 [.ints .i64 a0] (.ints .u64 z)
def ref02_Gcd_R (a0 : List Int) (a1 : List Int) (z : List Int) : Prop := Ic C F 49 [.ints .i64 a0, .ints .i64 a1] (.ints .i64 z)
def ref02_Div_R (a0 : List Int) (a1 : List Int) (zt0 : List Int) (zt1 : List Int) : Prop := Ic C F 50 [.ints .i64 a0, .ints .i64 a1] (.tuple [.ints .i64 zt0, .ints .i64 zt1])
def ref07_made_R (a0 : Bool) (a1 : List Int) (z_0 : Bool) (z_1 : List Int) : Prop := Ic C F 51 [.bool a0, .ints .i64 a1] (.agg [.bool z_0, .ints .i64 z_1])
def ref02_MulAdd_R (a0 : List Int) (a1 : Int) (a2 : Int) (z : List Int) : Prop := Ic C F 52 [.ints .i64 a0, .int .i64 a1, .int .i64 a2] (.ints .i64 z)
def ref02_DivSmall_R (a0 : List Int) (a1 : Int) (zt0 : List Int) (zt1 : Int) : Prop := Ic C F 74 [.ints .i64 a0, .int .i64 a1] (.tuple [.ints .i64 zt0, .int .i64 zt1])
def ref02_Trim_R (a0 : List Int) (z : List Int) : Prop := Ic C F 75 [.ints .i64 a0] (.ints .i64 z)
def ref02_Cmp_R (a0 : List Int) (a1 : List Int) (z : Int) : Prop := Ic C F 76 [.ints .i64 a0, .ints .i64 a1] (.int .i64 z)
def ref02_Sub_R (a0 : List Int) (a1 : List Int) (z : List Int) : Prop := Ic C F 77 [.ints .i64 a0, .ints .i64 a1] (.ints .i64 z)
def slices_EqualFunc_____api_Hop_____api_Hop___api_Hop___api_Hop__v0_R (a0 : List T46) (a1 : List T46) (z : Bool) : Prop := Ic C F 20 [(.list 1 (a0.map E46)), (.list 1 (a1.map E46)), .fn 21 [] []] (.bool z)
end Go.Proofs.YtfijdkdpcjfiaaaGreatA
