/- What each function answers, as a relation. -/
import Derived.Test.YtjcdkemnflmfiaaGreatBX
set_option linter.unusedVariables false
set_option maxRecDepth 100000
namespace Go.Proofs.YtjcdkemnflmfiaaGreatA
open Go Go.Proofs
abbrev T_api_Prefix : Type := Int × Int
def E_api_Prefix (p : T_api_Prefix) : D := .agg [.int .u32 p.1, .int .i64 p.2]
theorem E_api_Prefix_t (p : T_api_Prefix) : (E_api_Prefix p).cells.all (D.isT 2) = true := rfl
abbrev T_api_Node : Type := ByteArray × (List T_api_Prefix)
def E_api_Node (p : T_api_Node) : D := .agg [.str p.1, (.list 2 (List.map E_api_Prefix p.2))]
theorem E_api_Node_t (p : T_api_Node) : (E_api_Node p).cells.all (D.isT 2) = true := rfl
abbrev T_api_Link : Type := ByteArray × ByteArray × ByteArray × Bool × (List Int) × (List Int)
def E_api_Link (p : T_api_Link) : D := .agg [.str p.1, .str p.2.1, .str p.2.2.1, .bool p.2.2.2.1, .ints .u64 p.2.2.2.2.1, .ints .u64 p.2.2.2.2.2]
theorem E_api_Link_t (p : T_api_Link) : (E_api_Link p).cells.all (D.isT 2) = true := rfl
abbrev T_api_Hop : Type := ByteArray × Int
def E_api_Hop (p : T_api_Hop) : D := .agg [.str p.1, .int .i64 p.2]
theorem E_api_Hop_t (p : T_api_Hop) : (E_api_Hop p).cells.all (D.isT 2) = true := rfl
abbrev T71 : Type := List T_api_Hop
def E71 (p : T71) : D := (.list 2 (List.map E_api_Hop p))
theorem E71_t (p : T71) : (E71 p).cells.all (D.isT 2) = true := rfl
abbrev T_api_Rule : Type := ByteArray × Int × Int × Bool × (List T71)
def E_api_Rule (p : T_api_Rule) : D := .agg [.str p.1, .int .u32 p.2.1, .int .i64 p.2.2.1, .bool p.2.2.2.1, (.list 1 (List.map E71 p.2.2.2.2))]
theorem E_api_Rule_t (p : T_api_Rule) : (E_api_Rule p).cells.all (D.isT 2) = true := rfl
abbrev T_api_Net : Type := ByteArray × (List T_api_Node) × (List T_api_Link) × (List T_api_Rule)
def E_api_Net (p : T_api_Net) : D := .agg [.str p.1, (.list 2 (List.map E_api_Node p.2.1)), (.list 6 (List.map E_api_Link p.2.2.1)), (.list 5 (List.map E_api_Rule p.2.2.2))]
theorem E_api_Net_t (p : T_api_Net) : (E_api_Net p).cells.all (D.isT 2) = true := rfl
abbrev T_api_Rat : Type := Bool × (List Int) × (List Int)
def E_api_Rat (p : T_api_Rat) : D := .agg [.bool p.1, .ints .u64 p.2.1, .ints .u64 p.2.2]
theorem E_api_Rat_t (p : T_api_Rat) : (E_api_Rat p).cells.all (D.isT 2) = true := rfl
abbrev T_ref08_Q : Type := Bool × (List Int) × (List Int)
abbrev T_string : Type := ByteArray
def E_string (p : T_string) : D := (.str p)
theorem E_string_t (p : T_string) : (E_string p).cells.all (D.isT 2) = true := rfl
abbrev T_int : Type := Int
def E_int (p : T_int) : D := (.int .i64 p)
abbrev T_fail_Case : Type := Int × Bool × (List Int) × (List Int)
def E_fail_Case (p : T_fail_Case) : D := .agg [.int .u64 p.1, .bool p.2.1, .ints .u64 p.2.2.1, .ints .u64 p.2.2.2]
theorem E_fail_Case_t (p : T_fail_Case) : (E_fail_Case p).cells.all (D.isT 2) = true := rfl
abbrev T_bool : Type := Bool
def E_bool (p : T_bool) : D := (.bool p)
def law30_StepWhole_R (a : List T_api_Net) (b : Int) (z : Bool) : Prop := LawIs C F 5 [(.list 4 (a.map E_api_Net)), .int .i64 b] z
def law30_One_R (a : List T_api_Net) (b : ByteArray) (c : List T_api_Node) (d : List T_api_Link) (e : List T_api_Rule) : Prop := Ic C F 8 [(.list 4 (a.map E_api_Net))] (.agg [.str b, (.list 2 (c.map E_api_Node)), (.list 6 (d.map E_api_Link)), (.list 5 (e.map E_api_Rule))])
def law30_few_R (a : ByteArray) (b : List T_api_Node) (c : List T_api_Link) (d : List T_api_Rule) (e : Int) (z : Bool) : Prop := Ic C F 9 [(.agg [.str a, (.list 2 (b.map E_api_Node)), (.list 6 (c.map E_api_Link)), (.list 5 (d.map E_api_Rule))]), .int .i64 e] (.bool z)
def law30_works_R (z : Bool) : Prop := Ic C F 10 [] (.bool z)
def step_Of_R (a : ByteArray) (b : List T_api_Node) (c : List T_api_Link) (d : List T_api_Rule) (e : Int) (f : List Int) (g : List T_api_Rat) (i : Bool) (k l : List Int) (m : Int) : Prop := Ic C F 11 [(.agg [.str a, (.list 2 (b.map E_api_Node)), (.list 6 (c.map E_api_Link)), (.list 5 (d.map E_api_Rule))]), .int .i64 e] (.tuple [(.agg [.ints .i64 f, (.list 3 (g.map E_api_Rat)), .bool i, .ints .u64 k, .ints .u64 l]), .int .i64 m])
def ref08_Back_R (a : Bool) (b c : List Int) (d : Bool) (e f : List Int) : Prop := Ic C F 14 [(.agg [.bool a, .ints .i64 b, .ints .i64 c])] (.agg [.bool d, .ints .u64 e, .ints .u64 f])
def ref22_CleanRule_R (a : ByteArray) (b c : Int) (d : Bool) (e : List T71) (f : ByteArray) (g i : Int) (k : Bool) (l : List T71) : Prop := Ic C F 16 [(.agg [.str a, .int .u32 b, .int .i64 c, .bool d, (.list 1 (e.map E71))])] (.agg [.str f, .int .u32 g, .int .i64 i, .bool k, (.list 1 (l.map E71))])
def ref24_Out_R (a : ByteArray) (b c : Int) (d : Bool) (e : List T71) (z : List T_string) : Prop := Ic C F 17 [(.agg [.str a, .int .u32 b, .int .i64 c, .bool d, (.list 1 (e.map E71))])] (.list 1 (z.map E_string))
def rat_Sign_R (a : Bool) (b c : List Int) (z : Int) : Prop := Ic C F 25 [(.agg [.bool a, .ints .u64 b, .ints .u64 c])] (.int .i64 z)
def fold_Whole_R (a : List T_api_Rat) (z : Bool) : Prop := Ic C F 26 [(.list 3 (a.map E_api_Rat))] (.bool z)
def ref22_Clean_R (a z : List T_api_Net) : Prop := Ic C F 34 [(.list 4 (a.map E_api_Net))] (.list 4 (z.map E_api_Net))
def rat_Frac_R (a b : Int) (c : Bool) (d e : List Int) (f : Int) : Prop := Ic C F 35 [.int .i64 a, .int .i64 b] (.tuple [(.agg [.bool c, .ints .u64 d, .ints .u64 e]), .int .i64 f])
def rat_Same_R (a : Bool) (b c : List Int) (d : Bool) (e f : List Int) (z : Bool) : Prop := Ic C F 36 [(.agg [.bool a, .ints .u64 b, .ints .u64 c]), (.agg [.bool d, .ints .u64 e, .ints .u64 f])] (.bool z)
def fold_Not_R (a : Bool) (b c : List Int) (d : Bool) (e f : List Int) : Prop := Ic C F 37 [(.agg [.bool a, .ints .u64 b, .ints .u64 c])] (.agg [.bool d, .ints .u64 e, .ints .u64 f])
def rat_Of_R (a : Int) (b : Bool) (c d : List Int) : Prop := Ic C F 38 [.int .i64 a] (.agg [.bool b, .ints .u64 c, .ints .u64 d])
def step_links_R (b : ByteArray) (c : List T_api_Node) (d : List T_api_Link) (e : List T_api_Rule) (f : ByteArray) (g i : Int) (k : Bool) (l : List T71) (m : List T_string) (a : List (T_string × T_int)) (n : List T_api_Rat) (p : Int) : Prop := Ic C F 39 [(.agg [.str b, (.list 2 (c.map E_api_Node)), (.list 6 (d.map E_api_Link)), (.list 5 (e.map E_api_Rule))]), (.agg [.str f, .int .u32 g, .int .i64 i, .bool k, (.list 1 (l.map E71))])] (.tuple [(.agg [(.list 1 (m.map E_string)), (.mlit (mks E_string a) (mvs E_int a)), (.list 3 (n.map E_api_Rat))]), .int .i64 p])
def fail_All_R (a : List T_api_Rat) (b : List T_fail_Case) (c : Int) : Prop := Ic C F 40 [(.list 3 (a.map E_api_Rat))] (.tuple [(.list 4 (b.map E_fail_Case)), .int .i64 c])
def step_light_R (a : ByteArray) (b c : Int) (d : Bool) (e : List T71) (z : Bool) : Prop := Ic C F 41 [(.agg [.str a, .int .u32 b, .int .i64 c, .bool d, (.list 1 (e.map E71))])] (.bool z)
def slices_Index___string_string__R (a : List T_string) (b : ByteArray) (z : Int) : Prop := Ic C F 43 [(.list 1 (a.map E_string)), .str b] (.int .i64 z)
def rat_Add_R (a : Bool) (b c : List Int) (d : Bool) (e f : List Int) (g : Bool) (i k : List Int) : Prop := Ic C F 44 [(.agg [.bool a, .ints .u64 b, .ints .u64 c]), (.agg [.bool d, .ints .u64 e, .ints .u64 f])] (.agg [.bool g, .ints .u64 i, .ints .u64 k])
def rat_Mul_R (a : Bool) (b c : List Int) (d : Bool) (e f : List Int) (g : Bool) (i k : List Int) : Prop := Ic C F 45 [(.agg [.bool a, .ints .u64 b, .ints .u64 c]), (.agg [.bool d, .ints .u64 e, .ints .u64 f])] (.agg [.bool g, .ints .u64 i, .ints .u64 k])
def ref07_Back_R (a : Bool) (b : List Int) (c : Bool) (d : List Int) : Prop := Ic C F 56 [(.agg [.bool a, .ints .i64 b])] (.agg [.bool c, .ints .u64 d])
def ref02_Back_R (a z : List Int) : Prop := Ic C F 57 [.ints .i64 a] (.ints .u64 z)
def ref22_short_R (a z : ByteArray) : Prop := Ic C F 58 [.str a] (.str z)
def fold_Shares_R (a : List Int) (b : List T_api_Rat) (c : Int) : Prop := Ic C F 59 [.ints .i64 a] (.tuple [(.list 3 (b.map E_api_Rat)), .int .i64 c])
def ref08_Low_R (a : Bool) (b c : List Int) (d : Bool) (e f : List Int) : Prop := Ic C F 64 [(.agg [.bool a, .ints .i64 b]), .ints .i64 c] (.agg [.bool d, .ints .i64 e, .ints .i64 f])
def whole_Sign_R (a : Bool) (b : List Int) (z : Int) : Prop := Ic C F 71 [(.agg [.bool a, .ints .u64 b])] (.int .i64 z)
def rat_Cmp_R (a : Bool) (b c : List Int) (d : Bool) (e f : List Int) (z : Int) : Prop := Ic C F 72 [(.agg [.bool a, .ints .u64 b, .ints .u64 c]), (.agg [.bool d, .ints .u64 e, .ints .u64 f])] (.int .i64 z)
def rat_One_R (a : Bool) (b c : List Int) (z : Bool) : Prop := Ic C F 73 [(.agg [.bool a, .ints .u64 b, .ints .u64 c])] (.bool z)
def fold_Sum_R (a : List T_api_Rat) (b : Bool) (c d : List Int) : Prop := Ic C F 74 [(.list 3 (a.map E_api_Rat))] (.agg [.bool b, .ints .u64 c, .ints .u64 d])
def ref08_Clean_R (a : Bool) (b c : List Int) (d : Int) (e : Bool) (f g : List Int) : Prop := Ic C F 98 [(.agg [.bool a, .ints .u64 b, .ints .u64 c]), .int .i64 d] (.agg [.bool e, .ints .u64 f, .ints .u64 g])
def rat_Make_R (a : Bool) (b : List Int) (c : Bool) (d : List Int) (e : Bool) (f g : List Int) (i : Int) : Prop := Ic C F 99 [(.agg [.bool a, .ints .u64 b]), (.agg [.bool c, .ints .u64 d])] (.tuple [(.agg [.bool e, .ints .u64 f, .ints .u64 g]), .int .i64 i])
def whole_Of_R (a : Int) (b : Bool) (c : List Int) : Prop := Ic C F 100 [.int .i64 a] (.agg [.bool b, .ints .u64 c])
def nat_Cmp_R (a b : List Int) (z : Int) : Prop := Ic C F 101 [.ints .u64 a, .ints .u64 b] (.int .i64 z)
def rat_Sub_R (a : Bool) (b c : List Int) (d : Bool) (e f : List Int) (g : Bool) (i k : List Int) : Prop := Ic C F 102 [(.agg [.bool a, .ints .u64 b, .ints .u64 c]), (.agg [.bool d, .ints .u64 e, .ints .u64 f])] (.agg [.bool g, .ints .u64 i, .ints .u64 k])
def rat_one_R (z : List Int) : Prop := Ic C F 103 [] (.ints .u64 z)
def limits_Out_R (a : ByteArray) (b c : Int) (d : Bool) (e : List T71) (z : List T_string) : Prop := Ic C F 104 [(.agg [.str a, .int .u32 b, .int .i64 c, .bool d, (.list 1 (e.map E71))])] (.list 1 (z.map E_string))
def formed_Link_R (a : ByteArray) (b : List T_api_Node) (c : List T_api_Link) (d : List T_api_Rule) (e : ByteArray) (f : Int) (g : Bool) : Prop := Ic C F 105 [(.agg [.str a, (.list 2 (b.map E_api_Node)), (.list 6 (c.map E_api_Link)), (.list 5 (d.map E_api_Rule))]), .str e] (.tuple [.int .i64 f, .bool g])
def formed_Node_R (a : ByteArray) (b : List T_api_Node) (c : List T_api_Link) (d : List T_api_Rule) (e : ByteArray) (f : Int) (g : Bool) : Prop := Ic C F 106 [(.agg [.str a, (.list 2 (b.map E_api_Node)), (.list 6 (c.map E_api_Link)), (.list 5 (d.map E_api_Rule))]), .str e] (.tuple [.int .i64 f, .bool g])
def fail_right_R (a : List T_api_Rat) (z : Int) : Prop := Ic C F 107 [(.list 3 (a.map E_api_Rat))] (.int .i64 z)
def fail_chance_R (a : List T_api_Rat) (b : Int) (c : Bool) (d e : List Int) : Prop := Ic C F 108 [(.list 3 (a.map E_api_Rat)), .int .u64 b] (.agg [.bool c, .ints .u64 d, .ints .u64 e])
def step_light_1_R (a : List T_api_Hop) (z : Bool) : Prop := Ic C F 110 [(.list 2 (a.map E_api_Hop))] (.bool z)
def step_light_1_1_R (a : ByteArray) (b : Int) (z : Bool) : Prop := Ic C F 111 [(.agg [.str a, .int .i64 b])] (.bool z)
def whole_Add_R (a : Bool) (b : List Int) (c : Bool) (d : List Int) (e : Bool) (f : List Int) : Prop := Ic C F 112 [(.agg [.bool a, .ints .u64 b]), (.agg [.bool c, .ints .u64 d])] (.agg [.bool e, .ints .u64 f])
def whole_Mul_R (a : Bool) (b : List Int) (c : Bool) (d : List Int) (e : Bool) (f : List Int) : Prop := Ic C F 113 [(.agg [.bool a, .ints .u64 b]), (.agg [.bool c, .ints .u64 d])] (.agg [.bool e, .ints .u64 f])
def rat_up_R (a : Bool) (b c : List Int) (d : Bool) (e : List Int) : Prop := Ic C F 114 [(.agg [.bool a, .ints .u64 b, .ints .u64 c])] (.agg [.bool d, .ints .u64 e])
def ref07_Of_R (a : Bool) (b : List Int) (c : Bool) (d : List Int) : Prop := Ic C F 115 [(.agg [.bool a, .ints .u64 b])] (.agg [.bool c, .ints .i64 d])
def ref02_Of_R (a z : List Int) : Prop := Ic C F 116 [.ints .u64 a] (.ints .i64 z)
def ref02_DivSmall_R (a : List Int) (b : Int) (c : List Int) (d : Int) : Prop := Ic C F 120 [.ints .i64 a, .int .i64 b] (.tuple [.ints .i64 c, .int .i64 d])
def rat_Div_R (a : Bool) (b c : List Int) (d : Bool) (e f : List Int) (g : Bool) (i k : List Int) (l : Int) : Prop := Ic C F 121 [(.agg [.bool a, .ints .u64 b, .ints .u64 c]), (.agg [.bool d, .ints .u64 e, .ints .u64 f])] (.tuple [(.agg [.bool g, .ints .u64 i, .ints .u64 k]), .int .i64 l])
def ref02_Gcd_R (a b z : List Int) : Prop := Ic C F 123 [.ints .i64 a, .ints .i64 b] (.ints .i64 z)
def ref02_Div_R (a b c d : List Int) : Prop := Ic C F 124 [.ints .i64 a, .ints .i64 b] (.tuple [.ints .i64 c, .ints .i64 d])
def ref07_made_R (a : Bool) (b : List Int) (c : Bool) (d : List Int) : Prop := Ic C F 125 [.bool a, .ints .i64 b] (.agg [.bool c, .ints .i64 d])
def ref02_MulAdd_R (a : List Int) (b c : Int) (z : List Int) : Prop := Ic C F 126 [.ints .i64 a, .int .i64 b, .int .i64 c] (.ints .i64 z)
def ref02_Cmp_R (a b : List Int) (z : Int) : Prop := Ic C F 128 [.ints .i64 a, .ints .i64 b] (.int .i64 z)
def ref02_Sub_R (a b z : List Int) : Prop := Ic C F 129 [.ints .i64 a, .ints .i64 b] (.ints .i64 z)
def ref02_Trim_R (a z : List Int) : Prop := Ic C F 130 [.ints .i64 a] (.ints .i64 z)
def whole_Cmp_R (a : Bool) (b : List Int) (c : Bool) (d : List Int) (z : Int) : Prop := Ic C F 131 [(.agg [.bool a, .ints .u64 b]), (.agg [.bool c, .ints .u64 d])] (.int .i64 z)
def ref02_Clean_R (a : List Int) (b : Int) (z : List Int) : Prop := Ic C F 145 [.ints .u64 a, .int .i64 b] (.ints .u64 z)
def ref07_Clean_R (a : Bool) (b : List Int) (c : Int) (d : Bool) (e : List Int) : Prop := Ic C F 146 [(.agg [.bool a, .ints .u64 b]), .int .i64 c] (.agg [.bool d, .ints .u64 e])
def rat_low_R (a : Bool) (b c : List Int) (d : Bool) (e f : List Int) : Prop := Ic C F 147 [(.agg [.bool a, .ints .u64 b]), .ints .u64 c] (.agg [.bool d, .ints .u64 e, .ints .u64 f])
def whole_Made_R (a : Bool) (b : List Int) (c : Bool) (d : List Int) : Prop := Ic C F 148 [.bool a, .ints .u64 b] (.agg [.bool c, .ints .u64 d])
def nat_Add_R (a b z : List Int) : Prop := Ic C F 149 [.ints .u64 a, .ints .u64 b] (.ints .u64 z)
def nat_Of_R (a : Int) (z : List Int) : Prop := Ic C F 150 [.int .u64 a] (.ints .u64 z)
def rat_Neg_R (a : Bool) (b c : List Int) (d : Bool) (e f : List Int) : Prop := Ic C F 151 [(.agg [.bool a, .ints .u64 b, .ints .u64 c])] (.agg [.bool d, .ints .u64 e, .ints .u64 f])
def fail_right_1_R (a : Bool) (b c : List Int) (z : Bool) : Prop := Ic C F 157 [(.agg [.bool a, .ints .u64 b, .ints .u64 c])] (.bool z)
def nat_Sub_R (a b c : List Int) (d : Int) : Prop := Ic C F 158 [.ints .u64 a, .ints .u64 b] (.tuple [.ints .u64 c, .int .i64 d])
def mul_Mul_R (a b z : List Int) : Prop := Ic C F 159 [.ints .u64 a, .ints .u64 b] (.ints .u64 z)
def rat_Inv_R (a : Bool) (b c : List Int) (d : Bool) (e f : List Int) (g : Int) : Prop := Ic C F 162 [(.agg [.bool a, .ints .u64 b, .ints .u64 c])] (.tuple [(.agg [.bool d, .ints .u64 e, .ints .u64 f]), .int .i64 g])
def gcd_Euclid_R (a b z : List Int) : Prop := Ic C F 178 [.ints .u64 a, .ints .u64 b] (.ints .u64 z)
def divide_Exact_R (a b c : List Int) (d : Int) : Prop := Ic C F 179 [.ints .u64 a, .ints .u64 b] (.tuple [.ints .u64 c, .int .i64 d])
def nat_Make_R (a b : List Int) (c : Int) : Prop := Ic C F 180 [.ints .u64 a] (.tuple [.ints .u64 b, .int .i64 c])
def limb_Add_R (a b c d e : Int) : Prop := Ic C F 181 [.int .u64 a, .int .u64 b, .int .u64 c] (.tuple [.int .u64 d, .int .u64 e])
def nat_at_R (a : List Int) (b z : Int) : Prop := Ic C F 182 [.ints .u64 a, .int .i64 b] (.int .u64 z)
def nat_trim_R (a z : List Int) : Prop := Ic C F 183 [.ints .u64 a] (.ints .u64 z)
def whole_Neg_R (a : Bool) (b : List Int) (c : Bool) (d : List Int) : Prop := Ic C F 184 [(.agg [.bool a, .ints .u64 b])] (.agg [.bool c, .ints .u64 d])
def limb_Sub_R (a b c d e : Int) : Prop := Ic C F 186 [.int .u64 a, .int .u64 b, .int .u64 c] (.tuple [.int .u64 d, .int .u64 e])
def mul_Short_R (a b z : List Int) : Prop := Ic C F 187 [.ints .u64 a, .ints .u64 b] (.ints .u64 z)
def divide_Mod_R (a b c : List Int) (d : Int) : Prop := Ic C F 199 [.ints .u64 a, .ints .u64 b] (.tuple [.ints .u64 c, .int .i64 d])
def divide_Div_R (a b c d : List Int) (e : Int) : Prop := Ic C F 200 [.ints .u64 a, .ints .u64 b] (.tuple [.ints .u64 c, .ints .u64 d, .int .i64 e])
def mul_Long_R (a b z : List Int) : Prop := Ic C F 201 [.ints .u64 a, .ints .u64 b] (.ints .u64 z)
def mul_cut_R (a : List Int) (b : Int) (c d : List Int) : Prop := Ic C F 202 [.ints .u64 a, .int .i64 b] (.tuple [.ints .u64 c, .ints .u64 d])
def nat_Sum_R (a : List (List Int)) (z : List Int) : Prop := Ic C F 203 [(.list 1 (a.map (D.ints .u64)))] (.ints .u64 z)
def mul_up_R (a : List Int) (b : Int) (z : List Int) : Prop := Ic C F 204 [.ints .u64 a, .int .i64 b] (.ints .u64 z)
def nat_May_R (a : List Int) (z : Bool) : Prop := Ic C F 209 [.ints .u64 a] (.bool z)
def divide_Small_R (a : List Int) (b : Int) (c : List Int) (d e : Int) : Prop := Ic C F 212 [.ints .u64 a, .int .u64 b] (.tuple [.ints .u64 c, .int .u64 d, .int .i64 e])
def divide_knuth_R (a b c d : List Int) : Prop := Ic C F 213 [.ints .u64 a, .ints .u64 b] (.tuple [.ints .u64 c, .ints .u64 d])
def limb_Mul_R (a b c d e f : Int) : Prop := Ic C F 214 [.int .u64 a, .int .u64 b, .int .u64 c, .int .u64 d] (.tuple [.int .u64 e, .int .u64 f])
def mul_made_R (a z : List Int) : Prop := Ic C F 215 [.ints .u64 a] (.ints .u64 z)
def limb_Div_R (a b c d e f : Int) : Prop := Ic C F 217 [.int .u64 a, .int .u64 b, .int .u64 c] (.tuple [.int .u64 d, .int .u64 e, .int .i64 f])
def limb_Bits_R (a z : Int) : Prop := Ic C F 218 [.int .u64 a] (.int .i64 z)
def nat_Shl_R (a : List Int) (b : Int) (c : List Int) (d : Int) : Prop := Ic C F 219 [.ints .u64 a, .int .i64 b] (.tuple [.ints .u64 c, .int .i64 d])
def divide_guess_R (a : List Int) (b : Int) (c : List Int) (z : Int) : Prop := Ic C F 220 [.ints .u64 a, .int .i64 b, .ints .u64 c] (.int .u64 z)
def nat_Shr_R (a : List Int) (b : Int) (c : List Int) (d : Int) : Prop := Ic C F 223 [.ints .u64 a, .int .i64 b] (.tuple [.ints .u64 c, .int .i64 d])
def nat_shift_R (a z : Int) : Prop := Ic C F 224 [.int .i64 a] (.int .i64 z)
def divide_at_R (a : List Int) (b z : Int) : Prop := Ic C F 225 [.ints .u64 a, .int .i64 b] (.int .u64 z)
def step_Shares_v1_R (b : ByteArray) (c d : Int) (e : Bool) (f : List T71) (g : Int) (i : Bool) (k l : List Int) (m : List T_string) (a : List (T_string × T_int)) (n : List T_api_Rat) (p : List T_api_Hop) (q : List T_api_Rat) : Prop := Ic C F 19 [(.agg [.str b, .int .u32 c, .int .i64 d, .bool e, (.list 1 (f.map E71))]), (.fn 42 [] [(.ptr [.int .u64 g, .bool i, .ints .u64 k, .ints .u64 l]), (.ptr [(.list 1 (m.map E_string)), (.mlit (mks E_string a) (mvs E_int a)), (.list 3 (n.map E_api_Rat))])])] (.tuple [(.list 2 (p.map E_api_Hop)), (.list 3 (q.map E_api_Rat))])
def slices_ContainsFunc_____api_Hop___api_Hop__v0_R (a : List T71) (z : Bool) : Prop := Ic C F 109 [(.list 1 (a.map E71)), .fn 110 [] []] (.bool z)
def slices_IndexFunc___api_Link_api_Link__v0_R (a : List T_api_Link) (b : ByteArray) (z : Int) : Prop := Ic C F 152 [(.list 6 (a.map E_api_Link)), (.fn 153 [] [(.ptr [.str b])])] (.int .i64 z)
def slices_IndexFunc___api_Node_api_Node__v0_R (a : List T_api_Node) (b : ByteArray) (z : Int) : Prop := Ic C F 154 [(.list 2 (a.map E_api_Node)), (.fn 155 [] [(.ptr [.str b])])] (.int .i64 z)
def slices_ContainsFunc___api_Rat_api_Rat__v0_R (a : List T_api_Rat) (z : Bool) : Prop := Ic C F 156 [(.list 3 (a.map E_api_Rat)), .fn 157 [] []] (.bool z)
def slices_ContainsFunc___api_Hop_api_Hop__v0_R (a : List T_api_Hop) (z : Bool) : Prop := Ic C F 62 [(.list 2 (a.map E_api_Hop)), .fn 111 [] []] (.bool z)
def step_Group_v1_R (b : ByteArray) (c d : Int) (e : Bool) (f : List T71) (g : Int) (i : Bool) (k l : List Int) (m : List T_string) (a : List (T_string × T_int)) (n : List T_api_Rat) (z : Int) : Prop := Ic C F 21 [(.agg [.str b, .int .u32 c, .int .i64 d, .bool e, (.list 1 (f.map E71))]), (.fn 42 [] [(.ptr [.int .u64 g, .bool i, .ints .u64 k, .ints .u64 l]), (.ptr [(.list 1 (m.map E_string)), (.mlit (mks E_string a) (mvs E_int a)), (.list 3 (n.map E_api_Rat))])])] (.int .i64 z)
def step_Of_1_v0_R (b : ByteArray) (c : Int) (d : Bool) (e f : List Int) (g : List T_string) (a : List (T_string × T_int)) (i : List T_api_Rat) (z : Bool) : Prop := Ic C F 42 [.str b, (.ptr [.int .u64 c, .bool d, .ints .u64 e, .ints .u64 f]), (.ptr [(.list 1 (g.map E_string)), (.mlit (mks E_string a) (mvs E_int a)), (.list 3 (i.map E_api_Rat))])] (.bool z)
def slices_IndexFunc_____api_Hop___api_Hop__v1_R (a : List T71) (z : Int) : Prop := Ic C F 60 [(.list 1 (a.map E71)), .fn 110 [] []] (.int .i64 z)
def formed_Link_1_v0_R (a b c : ByteArray) (d : Bool) (e f : List Int) (g : ByteArray) (z : Bool) : Prop := Ic C F 153 [(.agg [.str a, .str b, .str c, .bool d, .ints .u64 e, .ints .u64 f]), (.ptr [.str g])] (.bool z)
def formed_Node_1_v0_R (a : ByteArray) (b : List T_api_Prefix) (c : ByteArray) (z : Bool) : Prop := Ic C F 155 [(.agg [.str a, (.list 2 (b.map E_api_Prefix))]), (.ptr [.str c])] (.bool z)
def slices_IndexFunc___api_Rat_api_Rat__v0_R (a : List T_api_Rat) (z : Int) : Prop := Ic C F 185 [(.list 3 (a.map E_api_Rat)), .fn 157 [] []] (.int .i64 z)
def slices_IndexFunc___api_Hop_api_Hop__v0_R (a : List T_api_Hop) (z : Int) : Prop := Ic C F 122 [(.list 2 (a.map E_api_Hop)), .fn 111 [] []] (.int .i64 z)
def slices_IndexFunc_____api_Hop___api_Hop__v2_R (b : List T71) (c : Int) (d : Bool) (e f : List Int) (g : List T_string) (a : List (T_string × T_int)) (i : List T_api_Rat) (z : Int) : Prop := Ic C F 60 [(.list 1 (b.map E71)), (.fn 61 [] [(.ptr [(.fn 42 [] [(.ptr [.int .u64 c, .bool d, .ints .u64 e, .ints .u64 f]), (.ptr [(.list 1 (g.map E_string)), (.mlit (mks E_string a) (mvs E_int a)), (.list 3 (i.map E_api_Rat))])])])])] (.int .i64 z)
def step_Group_1_v1_R (b : List T_api_Hop) (c : Int) (d : Bool) (e f : List Int) (g : List T_string) (a : List (T_string × T_int)) (i : List T_api_Rat) (z : Bool) : Prop := Ic C F 61 [(.list 2 (b.map E_api_Hop)), (.ptr [(.fn 42 [] [(.ptr [.int .u64 c, .bool d, .ints .u64 e, .ints .u64 f]), (.ptr [(.list 1 (g.map E_string)), (.mlit (mks E_string a) (mvs E_int a)), (.list 3 (i.map E_api_Rat))])])])] (.bool z)
def slices_ContainsFunc___api_Hop_api_Hop__v2_R (b : List T_api_Hop) (c : Int) (d : Bool) (e f : List Int) (g : List T_string) (a : List (T_string × T_int)) (i : List T_api_Rat) (z : Bool) : Prop := Ic C F 62 [(.list 2 (b.map E_api_Hop)), (.fn 63 [] [(.ptr [(.fn 42 [] [(.ptr [.int .u64 c, .bool d, .ints .u64 e, .ints .u64 f]), (.ptr [(.list 1 (g.map E_string)), (.mlit (mks E_string a) (mvs E_int a)), (.list 3 (i.map E_api_Rat))])])])])] (.bool z)
def slices_IndexFunc___api_Hop_api_Hop__v2_R (b : List T_api_Hop) (c : Int) (d : Bool) (e f : List Int) (g : List T_string) (a : List (T_string × T_int)) (i : List T_api_Rat) (z : Int) : Prop := Ic C F 122 [(.list 2 (b.map E_api_Hop)), (.fn 63 [] [(.ptr [(.fn 42 [] [(.ptr [.int .u64 c, .bool d, .ints .u64 e, .ints .u64 f]), (.ptr [(.list 1 (g.map E_string)), (.mlit (mks E_string a) (mvs E_int a)), (.list 3 (i.map E_api_Rat))])])])])] (.int .i64 z)
def step_Group_1_1_v1_R (b : ByteArray) (c d : Int) (e : Bool) (f g : List Int) (i : List T_string) (a : List (T_string × T_int)) (k : List T_api_Rat) (z : Bool) : Prop := Ic C F 63 [(.agg [.str b, .int .i64 c]), (.ptr [(.fn 42 [] [(.ptr [.int .u64 d, .bool e, .ints .u64 f, .ints .u64 g]), (.ptr [(.list 1 (i.map E_string)), (.mlit (mks E_string a) (mvs E_int a)), (.list 3 (k.map E_api_Rat))])])])] (.bool z)
def fold_Sum_S_R (xs : List T_api_Rat) (a : Bool) (b c : List Int) (ys : List T_api_Rat) : Prop := ∀ (cb : Nat → Blk) (ver n : Nat), n = xs.length → ∃ eb : Nat → Blk, Sc C F 74 [.sref 27 ver 3 0 n] [cb 0, cb 1, cb 2, cb 3, cb 4, cb 5, cb 6, cb 7, cb 8, cb 9, cb 10, cb 11, cb 12, cb 13, cb 14, cb 15, cb 16, cb 17, cb 18, cb 19, cb 20, cb 21, cb 22, cb 23, cb 24, cb 25, cb 26, ⟨ver, false, .rows 3 (xs.map E_api_Rat)⟩, cb 28, cb 29, cb 30, cb 31, cb 32, cb 33, cb 34, cb 35, cb 36, cb 37, cb 38, cb 39, cb 40, cb 41, cb 42, cb 43, cb 44, cb 45, cb 46, cb 47, cb 48, cb 49, cb 50, cb 51, cb 52] (.agg [.bool a, .ints .u64 b, .ints .u64 c]) [cb 0, cb 1, cb 2, cb 3, cb 4, cb 5, cb 6, cb 7, cb 8, cb 9, cb 10, cb 11, cb 12, cb 13, cb 14, cb 15, cb 16, cb 17, cb 18, cb 19, cb 20, cb 21, cb 22, cb 23, cb 24, cb 25, cb 26, ⟨ver, false, .rows 3 (ys.map E_api_Rat)⟩, cb 28, cb 29, cb 30, cb 31, cb 32, cb 33, cb 34, cb 35, cb 36, cb 37, cb 38, cb 39, cb 40, cb 41, cb 42, cb 43, cb 44, cb 45, cb 46, cb 47, cb 48, cb 49, cb 50, cb 51, cb 52, eb 0, eb 1, eb 2, eb 3, eb 4, eb 5, eb 6, eb 7, eb 8, eb 9, eb 10, eb 11, eb 12, eb 13, eb 14, eb 15, eb 16, eb 17]
def divide_take_R (xs : List Int) (a : Int) (b : List Int) (c : Int) (z : Bool) (ys : List Int) : Prop := ∀ (cb : Nat → Blk) (ver n : Nat), n = xs.length → Sc C F 221 [.sref 35 ver 1 0 n, .int .i64 a, .ints .u64 b, .int .u64 c] [cb 0, cb 1, cb 2, cb 3, cb 4, cb 5, cb 6, cb 7, cb 8, cb 9, cb 10, cb 11, cb 12, cb 13, cb 14, cb 15, cb 16, cb 17, cb 18, cb 19, cb 20, cb 21, cb 22, cb 23, cb 24, cb 25, cb 26, cb 27, cb 28, cb 29, cb 30, cb 31, cb 32, cb 33, cb 34, ⟨ver, false, .ints .u64 xs⟩, cb 36, cb 37, cb 38, cb 39, cb 40, cb 41, cb 42, cb 43, cb 44, cb 45, cb 46, cb 47, cb 48, cb 49, cb 50, cb 51, cb 52, cb 53, cb 54, cb 55, cb 56, cb 57, cb 58, cb 59, cb 60, cb 61, cb 62, cb 63, cb 64, cb 65, cb 66, cb 67, cb 68, cb 69, cb 70, cb 71, cb 72, cb 73, cb 74, cb 75, cb 76, cb 77, cb 78, cb 79, cb 80, cb 81, cb 82, cb 83, cb 84, cb 85, cb 86, cb 87, cb 88, cb 89, cb 90, cb 91, cb 92, cb 93, cb 94, cb 95, cb 96, cb 97, cb 98, cb 99, cb 100, cb 101, cb 102, cb 103] (.bool z) [cb 0, cb 1, cb 2, cb 3, cb 4, cb 5, cb 6, cb 7, cb 8, cb 9, cb 10, cb 11, cb 12, cb 13, cb 14, cb 15, cb 16, cb 17, cb 18, cb 19, cb 20, cb 21, cb 22, cb 23, cb 24, cb 25, cb 26, cb 27, cb 28, cb 29, cb 30, cb 31, cb 32, cb 33, cb 34, ⟨ver, false, .ints .u64 ys⟩, cb 36, cb 37, cb 38, cb 39, cb 40, cb 41, cb 42, cb 43, cb 44, cb 45, cb 46, cb 47, cb 48, cb 49, cb 50, cb 51, cb 52, cb 53, cb 54, cb 55, cb 56, cb 57, cb 58, cb 59, cb 60, cb 61, cb 62, cb 63, cb 64, cb 65, cb 66, cb 67, cb 68, cb 69, cb 70, cb 71, cb 72, cb 73, cb 74, cb 75, cb 76, cb 77, cb 78, cb 79, cb 80, cb 81, cb 82, cb 83, cb 84, cb 85, cb 86, cb 87, cb 88, cb 89, cb 90, cb 91, cb 92, cb 93, cb 94, cb 95, cb 96, cb 97, cb 98, cb 99, cb 100, cb 101, cb 102, cb 103]
def divide_give_R (xs : List Int) (a : Int) (b ys : List Int) : Prop := ∀ (cb : Nat → Blk) (ver n : Nat), n = xs.length → Sc C F 222 [.sref 35 ver 1 0 n, .int .i64 a, .ints .u64 b] [cb 0, cb 1, cb 2, cb 3, cb 4, cb 5, cb 6, cb 7, cb 8, cb 9, cb 10, cb 11, cb 12, cb 13, cb 14, cb 15, cb 16, cb 17, cb 18, cb 19, cb 20, cb 21, cb 22, cb 23, cb 24, cb 25, cb 26, cb 27, cb 28, cb 29, cb 30, cb 31, cb 32, cb 33, cb 34, ⟨ver, false, .ints .u64 xs⟩, cb 36, cb 37, cb 38, cb 39, cb 40, cb 41, cb 42, cb 43, cb 44, cb 45, cb 46, cb 47, cb 48, cb 49, cb 50, cb 51, cb 52, cb 53, cb 54, cb 55, cb 56, cb 57, cb 58, cb 59, cb 60, cb 61, cb 62, cb 63, cb 64, cb 65, cb 66, cb 67, cb 68, cb 69, cb 70, cb 71, cb 72, cb 73, cb 74, cb 75, cb 76, cb 77, cb 78, cb 79, cb 80, cb 81, cb 82, cb 83, cb 84, cb 85, cb 86, cb 87, cb 88, cb 89, cb 90, cb 91, cb 92, cb 93, cb 94, cb 95, cb 96, cb 97, cb 98, cb 99, cb 100, cb 101, cb 102, cb 103] (.tuple []) [cb 0, cb 1, cb 2, cb 3, cb 4, cb 5, cb 6, cb 7, cb 8, cb 9, cb 10, cb 11, cb 12, cb 13, cb 14, cb 15, cb 16, cb 17, cb 18, cb 19, cb 20, cb 21, cb 22, cb 23, cb 24, cb 25, cb 26, cb 27, cb 28, cb 29, cb 30, cb 31, cb 32, cb 33, cb 34, ⟨ver, false, .ints .u64 ys⟩, cb 36, cb 37, cb 38, cb 39, cb 40, cb 41, cb 42, cb 43, cb 44, cb 45, cb 46, cb 47, cb 48, cb 49, cb 50, cb 51, cb 52, cb 53, cb 54, cb 55, cb 56, cb 57, cb 58, cb 59, cb 60, cb 61, cb 62, cb 63, cb 64, cb 65, cb 66, cb 67, cb 68, cb 69, cb 70, cb 71, cb 72, cb 73, cb 74, cb 75, cb 76, cb 77, cb 78, cb 79, cb 80, cb 81, cb 82, cb 83, cb 84, cb 85, cb 86, cb 87, cb 88, cb 89, cb 90, cb 91, cb 92, cb 93, cb 94, cb 95, cb 96, cb 97, cb 98, cb 99, cb 100, cb 101, cb 102, cb 103]
end Go.Proofs.YtjcdkemnflmfiaaGreatA
