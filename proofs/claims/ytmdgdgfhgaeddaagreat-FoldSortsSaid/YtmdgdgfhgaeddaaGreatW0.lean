/- What each function answers, as a relation. -/
import Derived.Test.YtmdgdgfhgaeddaaGreatB8
set_option linter.unusedVariables false
set_option maxRecDepth 100000
namespace Go.Proofs.YtmdgdgfhgaeddaaGreatA
open Go Go.Proofs
abbrev T_api_Rat : Type := Bool × (List Int) × (List Int)
def E_api_Rat (p : T_api_Rat) : D := .agg [.bool p.1, .ints .u64 p.2.1, .ints .u64 p.2.2]
theorem E_api_Rat_t (p : T_api_Rat) : (E_api_Rat p).cells.all (D.isT 2) = true := rfl
abbrev T_ref08_Q : Type := Bool × (List Int) × (List Int)
def E_ref08_Q (p : T_ref08_Q) : D := .agg [.bool p.1, .ints .i64 p.2.1, .ints .i64 p.2.2]
theorem E_ref08_Q_t (p : T_ref08_Q) : (E_ref08_Q p).cells.all (D.isT 2) = true := rfl
def law10_FoldSorts_R (a0 : List T_api_Rat) (z : Bool) : Prop := LawIs C F 3 [(.list 3 (a0.map E_api_Rat))] z
def law10_few_R (a0 : List T_api_Rat) (zt0 : List T_api_Rat) (zt1 : List T_ref08_Q) : Prop := Ic C F 4 [(.list 3 (a0.map E_api_Rat))] (.tuple [(.list 3 (zt0.map E_api_Rat)), (.list 3 (zt1.map E_ref08_Q))])
def fold_Sorted_R (a0 : List T_api_Rat) (z : List T_api_Rat) : Prop := Ic C F 5 [(.list 3 (a0.map E_api_Rat))] (.list 3 (z.map E_api_Rat))
def fold_Running_R (a0 : List T_api_Rat) (z : List T_api_Rat) : Prop := Ic C F 6 [(.list 3 (a0.map E_api_Rat))] (.list 3 (z.map E_api_Rat))
def fold_Bounds_R (a0 : List T_api_Rat) (zt0_0 : Bool) (zt0_1 : List Int) (zt0_2 : List Int) (zt1_0 : Bool) (zt1_1 : List Int) (zt1_2 : List Int) (zt2 : Int) : Prop := Ic C F 7 [(.list 3 (a0.map E_api_Rat))] (.tuple [(.agg [.bool zt0_0, .ints .u64 zt0_1, .ints .u64 zt0_2]), (.agg [.bool zt1_0, .ints .u64 zt1_1, .ints .u64 zt1_2]), .int .i64 zt2])
def law10_works_R (z : Bool) : Prop := Ic C F 8 [] (.bool z)
def ref08_Num_R (a0 : Int) (a1 : Int) (z_0 : Bool) (z_1 : List Int) (z_2 : List Int) : Prop := Ic C F 9 [.int .i64 a0, .int .i64 a1] (.agg [.bool z_0, .ints .i64 z_1, .ints .i64 z_2])
def ref08_Add_R (a0_0 : Bool) (a0_1 : List Int) (a0_2 : List Int) (a1_0 : Bool) (a1_1 : List Int) (a1_2 : List Int) (z_0 : Bool) (z_1 : List Int) (z_2 : List Int) : Prop := Ic C F 10 [(.agg [.bool a0_0, .ints .i64 a0_1, .ints .i64 a0_2]), (.agg [.bool a1_0, .ints .i64 a1_1, .ints .i64 a1_2])] (.agg [.bool z_0, .ints .i64 z_1, .ints .i64 z_2])
def ref08_Same_R (a0_0 : Bool) (a0_1 : List Int) (a0_2 : List Int) (a1_0 : Bool) (a1_1 : List Int) (a1_2 : List Int) (z : Bool) : Prop := Ic C F 11 [(.agg [.bool a0_0, .ints .u64 a0_1, .ints .u64 a0_2]), (.agg [.bool a1_0, .ints .u64 a1_1, .ints .u64 a1_2])] (.bool z)
def ref08_Back_R (a0_0 : Bool) (a0_1 : List Int) (a0_2 : List Int) (z_0 : Bool) (z_1 : List Int) (z_2 : List Int) : Prop := Ic C F 12 [(.agg [.bool a0_0, .ints .i64 a0_1, .ints .i64 a0_2])] (.agg [.bool z_0, .ints .u64 z_1, .ints .u64 z_2])
def ref08_Cmp_R (a0_0 : Bool) (a0_1 : List Int) (a0_2 : List Int) (a1_0 : Bool) (a1_1 : List Int) (a1_2 : List Int) (z : Int) : Prop := Ic C F 13 [(.agg [.bool a0_0, .ints .i64 a0_1, .ints .i64 a0_2]), (.agg [.bool a1_0, .ints .i64 a1_1, .ints .i64 a1_2])] (.int .i64 z)
def ref08_Of_R (a0_0 : Bool) (a0_1 : List Int) (a0_2 : List Int) (z_0 : Bool) (z_1 : List Int) (z_2 : List Int) : Prop := Ic C F 14 [(.agg [.bool a0_0, .ints .u64 a0_1, .ints .u64 a0_2])] (.agg [.bool z_0, .ints .i64 z_1, .ints .i64 z_2])
def ref08_Clean_R (a0_0 : Bool) (a0_1 : List Int) (a0_2 : List Int) (a1 : Int) (z_0 : Bool) (z_1 : List Int) (z_2 : List Int) : Prop := Ic C F 15 [(.agg [.bool a0_0, .ints .u64 a0_1, .ints .u64 a0_2]), .int .i64 a1] (.agg [.bool z_0, .ints .u64 z_1, .ints .u64 z_2])
def rat_Cmp_R (a0_0 : Bool) (a0_1 : List Int) (a0_2 : List Int) (a1_0 : Bool) (a1_1 : List Int) (a1_2 : List Int) (z : Int) : Prop := Ic C F 18 [(.agg [.bool a0_0, .ints .u64 a0_1, .ints .u64 a0_2]), (.agg [.bool a1_0, .ints .u64 a1_1, .ints .u64 a1_2])] (.int .i64 z)
def rat_Of_R (a0 : Int) (z_0 : Bool) (z_1 : List Int) (z_2 : List Int) : Prop := Ic C F 19 [.int .i64 a0] (.agg [.bool z_0, .ints .u64 z_1, .ints .u64 z_2])
def rat_Add_R (a0_0 : Bool) (a0_1 : List Int) (a0_2 : List Int) (a1_0 : Bool) (a1_1 : List Int) (a1_2 : List Int) (z_0 : Bool) (z_1 : List Int) (z_2 : List Int) : Prop := Ic C F 20 [(.agg [.bool a0_0, .ints .u64 a0_1, .ints .u64 a0_2]), (.agg [.bool a1_0, .ints .u64 a1_1, .ints .u64 a1_2])] (.agg [.bool z_0, .ints .u64 z_1, .ints .u64 z_2])
def fold_Least_R (a0 : List T_api_Rat) (zt0_0 : Bool) (zt0_1 : List Int) (zt0_2 : List Int) (zt1 : Int) : Prop := Ic C F 21 [(.list 3 (a0.map E_api_Rat))] (.tuple [(.agg [.bool zt0_0, .ints .u64 zt0_1, .ints .u64 zt0_2]), .int .i64 zt1])
def fold_Greatest_R (a0 : List T_api_Rat) (zt0_0 : Bool) (zt0_1 : List Int) (zt0_2 : List Int) (zt1 : Int) : Prop := Ic C F 22 [(.list 3 (a0.map E_api_Rat))] (.tuple [(.agg [.bool zt0_0, .ints .u64 zt0_1, .ints .u64 zt0_2]), .int .i64 zt1])
def fold_Shares_R (a0 : List Int) (zt0 : List T_api_Rat) (zt1 : Int) : Prop := Ic C F 23 [.ints .i64 a0] (.tuple [(.list 3 (zt0.map E_api_Rat)), .int .i64 zt1])
def fold_Whole_R (a0 : List T_api_Rat) (z : Bool) : Prop := Ic C F 24 [(.list 3 (a0.map E_api_Rat))] (.bool z)
def ref08_Low_R (a0_0 : Bool) (a0_1 : List Int) (a1 : List Int) (z_0 : Bool) (z_1 : List Int) (z_2 : List Int) : Prop := Ic C F 25 [(.agg [.bool a0_0, .ints .i64 a0_1]), .ints .i64 a1] (.agg [.bool z_0, .ints .i64 z_1, .ints .i64 z_2])
def ref07_Num_R (a0 : Int) (z_0 : Bool) (z_1 : List Int) : Prop := Ic C F 26 [.int .i64 a0] (.agg [.bool z_0, .ints .i64 z_1])
def ref02_Num_R (a0 : Int) (z : List Int) : Prop := Ic C F 27 [.int .i64 a0] (.ints .i64 z)
def ref07_Mul_R (a0_0 : Bool) (a0_1 : List Int) (a1_0 : Bool) (a1_1 : List Int) (z_0 : Bool) (z_1 : List Int) : Prop := Ic C F 28 [(.agg [.bool a0_0, .ints .i64 a0_1]), (.agg [.bool a1_0, .ints .i64 a1_1])] (.agg [.bool z_0, .ints .i64 z_1])
def ref07_Add_R (a0_0 : Bool) (a0_1 : List Int) (a1_0 : Bool) (a1_1 : List Int) (z_0 : Bool) (z_1 : List Int) : Prop := Ic C F 29 [(.agg [.bool a0_0, .ints .i64 a0_1]), (.agg [.bool a1_0, .ints .i64 a1_1])] (.agg [.bool z_0, .ints .i64 z_1])
def ref02_Mul_R (a0 : List Int) (a1 : List Int) (z : List Int) : Prop := Ic C F 30 [.ints .i64 a0, .ints .i64 a1] (.ints .i64 z)
def ref07_Same_R (a0_0 : Bool) (a0_1 : List Int) (a1_0 : Bool) (a1_1 : List Int) (z : Bool) : Prop := Ic C F 31 [(.agg [.bool a0_0, .ints .u64 a0_1]), (.agg [.bool a1_0, .ints .u64 a1_1])] (.bool z)
def ref02_Same_R (a0 : List Int) (a1 : List Int) (z : Bool) : Prop := Ic C F 32 [.ints .u64 a0, .ints .u64 a1] (.bool z)
def ref07_Back_R (a0_0 : Bool) (a0_1 : List Int) (z_0 : Bool) (z_1 : List Int) : Prop := Ic C F 33 [(.agg [.bool a0_0, .ints .i64 a0_1])] (.agg [.bool z_0, .ints .u64 z_1])
def ref02_Back_R (a0 : List Int) (z : List Int) : Prop := Ic C F 34 [.ints .i64 a0] (.ints .u64 z)
def ref08_Sign_R (a0_0 : Bool) (a0_1 : List Int) (a0_2 : List Int) (z : Int) : Prop := Ic C F 35 [(.agg [.bool a0_0, .ints .i64 a0_1, .ints .i64 a0_2])] (.int .i64 z)
def ref08_Sub_R (a0_0 : Bool) (a0_1 : List Int) (a0_2 : List Int) (a1_0 : Bool) (a1_1 : List Int) (a1_2 : List Int) (z_0 : Bool) (z_1 : List Int) (z_2 : List Int) : Prop := Ic C F 36 [(.agg [.bool a0_0, .ints .i64 a0_1, .ints .i64 a0_2]), (.agg [.bool a1_0, .ints .i64 a1_1, .ints .i64 a1_2])] (.agg [.bool z_0, .ints .i64 z_1, .ints .i64 z_2])
def ref07_Of_R (a0_0 : Bool) (a0_1 : List Int) (z_0 : Bool) (z_1 : List Int) : Prop := Ic C F 37 [(.agg [.bool a0_0, .ints .u64 a0_1])] (.agg [.bool z_0, .ints .i64 z_1])
def ref02_Of_R (a0 : List Int) (z : List Int) : Prop := Ic C F 38 [.ints .u64 a0] (.ints .i64 z)
def ref02_Clean_R (a0 : List Int) (a1 : Int) (z : List Int) : Prop := Ic C F 39 [.ints .u64 a0, .int .i64 a1] (.ints .u64 z)
def ref07_Clean_R (a0_0 : Bool) (a0_1 : List Int) (a1 : Int) (z_0 : Bool) (z_1 : List Int) : Prop := Ic C F 40 [(.agg [.bool a0_0, .ints .u64 a0_1]), .int .i64 a1] (.agg [.bool z_0, .ints .u64 z_1])
def whole_Cmp_R (a0_0 : Bool) (a0_1 : List Int) (a1_0 : Bool) (a1_1 : List Int) (z : Int) : Prop := Ic C F 42 [(.agg [.bool a0_0, .ints .u64 a0_1]), (.agg [.bool a1_0, .ints .u64 a1_1])] (.int .i64 z)
def whole_Mul_R (a0_0 : Bool) (a0_1 : List Int) (a1_0 : Bool) (a1_1 : List Int) (z_0 : Bool) (z_1 : List Int) : Prop := Ic C F 43 [(.agg [.bool a0_0, .ints .u64 a0_1]), (.agg [.bool a1_0, .ints .u64 a1_1])] (.agg [.bool z_0, .ints .u64 z_1])
def rat_up_R (a0_0 : Bool) (a0_1 : List Int) (a0_2 : List Int) (z_0 : Bool) (z_1 : List Int) : Prop := Ic C F 44 [(.agg [.bool a0_0, .ints .u64 a0_1, .ints .u64 a0_2])] (.agg [.bool z_0, .ints .u64 z_1])
def whole_Of_R (a0 : Int) (z_0 : Bool) (z_1 : List Int) : Prop := Ic C F 45 [.int .i64 a0] (.agg [.bool z_0, .ints .u64 z_1])
def rat_one_R (z : List Int) : Prop := Ic C F 46 [] (.ints .u64 z)
def whole_Add_R (a0_0 : Bool) (a0_1 : List Int) (a1_0 : Bool) (a1_1 : List Int) (z_0 : Bool) (z_1 : List Int) : Prop := Ic C F 47 [(.agg [.bool a0_0, .ints .u64 a0_1]), (.agg [.bool a1_0, .ints .u64 a1_1])] (.agg [.bool z_0, .ints .u64 z_1])
def rat_Make_R (a0_0 : Bool) (a0_1 : List Int) (a1_0 : Bool) (a1_1 : List Int) (zt0_0 : Bool) (zt0_1 : List Int) (zt0_2 : List Int) (zt1 : Int) : Prop := Ic C F 48 [(.agg [.bool a0_0, .ints .u64 a0_1]), (.agg [.bool a1_0, .ints .u64 a1_1])] (.tuple [(.agg [.bool zt0_0, .ints .u64 zt0_1, .ints .u64 zt0_2]), .int .i64 zt1])
def fold_Least_1_R (a0_0 : Bool) (a0_1 : List Int) (a0_2 : List Int) (a1_0 : Bool) (a1_1 : List Int) (a1_2 : List Int) (z : Bool) : Prop := Ic C F 50 [(.agg [.bool a0_0, .ints .u64 a0_1, .ints .u64 a0_2]), (.agg [.bool a1_0, .ints .u64 a1_1, .ints .u64 a1_2])] (.bool z)
def fold_Greatest_1_R (a0_0 : Bool) (a0_1 : List Int) (a0_2 : List Int) (a1_0 : Bool) (a1_1 : List Int) (a1_2 : List Int) (z : Bool) : Prop := Ic C F 51 [(.agg [.bool a0_0, .ints .u64 a0_1, .ints .u64 a0_2]), (.agg [.bool a1_0, .ints .u64 a1_1, .ints .u64 a1_2])] (.bool z)
def fold_Sum_R (a0 : List T_api_Rat) (z_0 : Bool) (z_1 : List Int) (z_2 : List Int) : Prop := Ic C F 52 [(.list 3 (a0.map E_api_Rat))] (.agg [.bool z_0, .ints .u64 z_1, .ints .u64 z_2])
def rat_Div_R (a0_0 : Bool) (a0_1 : List Int) (a0_2 : List Int) (a1_0 : Bool) (a1_1 : List Int) (a1_2 : List Int) (zt0_0 : Bool) (zt0_1 : List Int) (zt0_2 : List Int) (zt1 : Int) : Prop := Ic C F 53 [(.agg [.bool a0_0, .ints .u64 a0_1, .ints .u64 a0_2]), (.agg [.bool a1_0, .ints .u64 a1_1, .ints .u64 a1_2])] (.tuple [(.agg [.bool zt0_0, .ints .u64 zt0_1, .ints .u64 zt0_2]), .int .i64 zt1])
def rat_Sign_R (a0_0 : Bool) (a0_1 : List Int) (a0_2 : List Int) (z : Int) : Prop := Ic C F 54 [(.agg [.bool a0_0, .ints .u64 a0_1, .ints .u64 a0_2])] (.int .i64 z)
def rat_One_R (a0_0 : Bool) (a0_1 : List Int) (a0_2 : List Int) (z : Bool) : Prop := Ic C F 55 [(.agg [.bool a0_0, .ints .u64 a0_1, .ints .u64 a0_2])] (.bool z)
def ref02_Gcd_R (a0 : List Int) (a1 : List Int) (z : List Int) : Prop := Ic C F 56 [.ints .i64 a0, .ints .i64 a1] (.ints .i64 z)
def ref02_Div_R (a0 : List Int) (a1 : List Int) (zt0 : List Int) (zt1 : List Int) : Prop := Ic C F 57 [.ints .i64 a0, .ints .i64 a1] (.tuple [.ints .i64 zt0, .ints .i64 zt1])
def ref07_made_R (a0 : Bool) (a1 : List Int) (z_0 : Bool) (z_1 : List Int) : Prop := Ic C F 58 [.bool a0, .ints .i64 a1] (.agg [.bool z_0, .ints .i64 z_1])
def ref02_MulAdd_R (a0 : List Int) (a1 : Int) (a2 : Int) (z : List Int) : Prop := Ic C F 59 [.ints .i64 a0, .int .i64 a1, .int .i64 a2] (.ints .i64 z)
def ref02_Add_R (a0 : List Int) (a1 : List Int) (z : List Int) : Prop := Ic C F 60 [.ints .i64 a0, .ints .i64 a1] (.ints .i64 z)
def ref02_Cmp_R (a0 : List Int) (a1 : List Int) (z : Int) : Prop := Ic C F 61 [.ints .i64 a0, .ints .i64 a1] (.int .i64 z)
def ref02_Sub_R (a0 : List Int) (a1 : List Int) (z : List Int) : Prop := Ic C F 62 [.ints .i64 a0, .ints .i64 a1] (.ints .i64 z)
def ref02_Trim_R (a0 : List Int) (z : List Int) : Prop := Ic C F 63 [.ints .i64 a0] (.ints .i64 z)
def ref02_DivSmall_R (a0 : List Int) (a1 : Int) (zt0 : List Int) (zt1 : Int) : Prop := Ic C F 64 [.ints .i64 a0, .int .i64 a1] (.tuple [.ints .i64 zt0, .int .i64 zt1])
def ref07_Sign_R (a0_0 : Bool) (a0_1 : List Int) (z : Int) : Prop := Ic C F 65 [(.agg [.bool a0_0, .ints .i64 a0_1])] (.int .i64 z)
def ref08_Neg_R (a0_0 : Bool) (a0_1 : List Int) (a0_2 : List Int) (z_0 : Bool) (z_1 : List Int) (z_2 : List Int) : Prop := Ic C F 66 [(.agg [.bool a0_0, .ints .i64 a0_1, .ints .i64 a0_2])] (.agg [.bool z_0, .ints .i64 z_1, .ints .i64 z_2])
def whole_Sign_R (a0_0 : Bool) (a0_1 : List Int) (z : Int) : Prop := Ic C F 69 [(.agg [.bool a0_0, .ints .u64 a0_1])] (.int .i64 z)
def nat_Cmp_R (a0 : List Int) (a1 : List Int) (z : Int) : Prop := Ic C F 70 [.ints .u64 a0, .ints .u64 a1] (.int .i64 z)
def whole_Made_R (a0 : Bool) (a1 : List Int) (z_0 : Bool) (z_1 : List Int) : Prop := Ic C F 71 [.bool a0, .ints .u64 a1] (.agg [.bool z_0, .ints .u64 z_1])
def mul_Mul_R (a0 : List Int) (a1 : List Int) (z : List Int) : Prop := Ic C F 72 [.ints .u64 a0, .ints .u64 a1] (.ints .u64 z)
def nat_Add_R (a0 : List Int) (a1 : List Int) (z : List Int) : Prop := Ic C F 73 [.ints .u64 a0, .ints .u64 a1] (.ints .u64 z)
def nat_Of_R (a0 : Int) (z : List Int) : Prop := Ic C F 74 [.int .u64 a0] (.ints .u64 z)
def nat_Sub_R (a0 : List Int) (a1 : List Int) (zt0 : List Int) (zt1 : Int) : Prop := Ic C F 75 [.ints .u64 a0, .ints .u64 a1] (.tuple [.ints .u64 zt0, .int .i64 zt1])
def rat_low_R (a0_0 : Bool) (a0_1 : List Int) (a1 : List Int) (z_0 : Bool) (z_1 : List Int) (z_2 : List Int) : Prop := Ic C F 76 [(.agg [.bool a0_0, .ints .u64 a0_1]), .ints .u64 a1] (.agg [.bool z_0, .ints .u64 z_1, .ints .u64 z_2])
def rat_Neg_R (a0_0 : Bool) (a0_1 : List Int) (a0_2 : List Int) (z_0 : Bool) (z_1 : List Int) (z_2 : List Int) : Prop := Ic C F 77 [(.agg [.bool a0_0, .ints .u64 a0_1, .ints .u64 a0_2])] (.agg [.bool z_0, .ints .u64 z_1, .ints .u64 z_2])
def rat_Inv_R (a0_0 : Bool) (a0_1 : List Int) (a0_2 : List Int) (zt0_0 : Bool) (zt0_1 : List Int) (zt0_2 : List Int) (zt1 : Int) : Prop := Ic C F 78 [(.agg [.bool a0_0, .ints .u64 a0_1, .ints .u64 a0_2])] (.tuple [(.agg [.bool zt0_0, .ints .u64 zt0_1, .ints .u64 zt0_2]), .int .i64 zt1])
def rat_Mul_R (a0_0 : Bool) (a0_1 : List Int) (a0_2 : List Int) (a1_0 : Bool) (a1_1 : List Int) (a1_2 : List Int) (z_0 : Bool) (z_1 : List Int) (z_2 : List Int) : Prop := Ic C F 79 [(.agg [.bool a0_0, .ints .u64 a0_1, .ints .u64 a0_2]), (.agg [.bool a1_0, .ints .u64 a1_1, .ints .u64 a1_2])] (.agg [.bool z_0, .ints .u64 z_1, .ints .u64 z_2])
def rat_Same_R (a0_0 : Bool) (a0_1 : List Int) (a0_2 : List Int) (a1_0 : Bool) (a1_1 : List Int) (a1_2 : List Int) (z : Bool) : Prop := Ic C F 80 [(.agg [.bool a0_0, .ints .u64 a0_1, .ints .u64 a0_2]), (.agg [.bool a1_0, .ints .u64 a1_1, .ints .u64 a1_2])] (.bool z)
def ref07_Neg_R (a0_0 : Bool) (a0_1 : List Int) (z_0 : Bool) (z_1 : List Int) : Prop := Ic C F 81 [(.agg [.bool a0_0, .ints .i64 a0_1])] (.agg [.bool z_0, .ints .i64 z_1])
def nat_Make_R (a0 : List Int) (zt0 : List Int) (zt1 : Int) : Prop := Ic C F 83 [.ints .u64 a0] (.tuple [.ints .u64 zt0, .int .i64 zt1])
def mul_Short_R (a0 : List Int) (a1 : List Int) (z : List Int) : Prop := Ic C F 84 [.ints .u64 a0, .ints .u64 a1] (.ints .u64 z)
def limb_Add_R (a0 : Int) (a1 : Int) (a2 : Int) (zt0 : Int) (zt1 : Int) : Prop := Ic C F 85 [.int .u64 a0, .int .u64 a1, .int .u64 a2] (.tuple [.int .u64 zt0, .int .u64 zt1])
def nat_at_R (a0 : List Int) (a1 : Int) (z : Int) : Prop := Ic C F 86 [.ints .u64 a0, .int .i64 a1] (.int .u64 z)
def nat_trim_R (a0 : List Int) (z : List Int) : Prop := Ic C F 87 [.ints .u64 a0] (.ints .u64 z)
def limb_Sub_R (a0 : Int) (a1 : Int) (a2 : Int) (zt0 : Int) (zt1 : Int) : Prop := Ic C F 88 [.int .u64 a0, .int .u64 a1, .int .u64 a2] (.tuple [.int .u64 zt0, .int .u64 zt1])
def gcd_Euclid_R (a0 : List Int) (a1 : List Int) (z : List Int) : Prop := Ic C F 89 [.ints .u64 a0, .ints .u64 a1] (.ints .u64 z)
def divide_Exact_R (a0 : List Int) (a1 : List Int) (zt0 : List Int) (zt1 : Int) : Prop := Ic C F 90 [.ints .u64 a0, .ints .u64 a1] (.tuple [.ints .u64 zt0, .int .i64 zt1])
def whole_Neg_R (a0_0 : Bool) (a0_1 : List Int) (z_0 : Bool) (z_1 : List Int) : Prop := Ic C F 91 [(.agg [.bool a0_0, .ints .u64 a0_1])] (.agg [.bool z_0, .ints .u64 z_1])
def mul_Long_R (a0 : List Int) (a1 : List Int) (z : List Int) : Prop := Ic C F 93 [.ints .u64 a0, .ints .u64 a1] (.ints .u64 z)
def mul_cut_R (a0 : List Int) (a1 : Int) (zt0 : List Int) (zt1 : List Int) : Prop := Ic C F 94 [.ints .u64 a0, .int .i64 a1] (.tuple [.ints .u64 zt0, .ints .u64 zt1])
def nat_Sum_R (a0 : List (List Int)) (z : List Int) : Prop := Ic C F 95 [(.list 1 (a0.map (D.ints .u64)))] (.ints .u64 z)
def mul_up_R (a0 : List Int) (a1 : Int) (z : List Int) : Prop := Ic C F 96 [.ints .u64 a0, .int .i64 a1] (.ints .u64 z)
def divide_Mod_R (a0 : List Int) (a1 : List Int) (zt0 : List Int) (zt1 : Int) : Prop := Ic C F 97 [.ints .u64 a0, .ints .u64 a1] (.tuple [.ints .u64 zt0, .int .i64 zt1])
def divide_Div_R (a0 : List Int) (a1 : List Int) (zt0 : List Int) (zt1 : List Int) (zt2 : Int) : Prop := Ic C F 98 [.ints .u64 a0, .ints .u64 a1] (.tuple [.ints .u64 zt0, .ints .u64 zt1, .int .i64 zt2])
def limb_Mul_R (a0 : Int) (a1 : Int) (a2 : Int) (a3 : Int) (zt0 : Int) (zt1 : Int) : Prop := Ic C F 99 [.int .u64 a0, .int .u64 a1, .int .u64 a2, .int .u64 a3] (.tuple [.int .u64 zt0, .int .u64 zt1])
def mul_made_R (a0 : List Int) (z : List Int) : Prop := Ic C F 100 [.ints .u64 a0] (.ints .u64 z)
def nat_May_R (a0 : List Int) (z : Bool) : Prop := Ic C F 101 [.ints .u64 a0] (.bool z)
def divide_Small_R (a0 : List Int) (a1 : Int) (zt0 : List Int) (zt1 : Int) (zt2 : Int) : Prop := Ic C F 102 [.ints .u64 a0, .int .u64 a1] (.tuple [.ints .u64 zt0, .int .u64 zt1, .int .i64 zt2])
def divide_knuth_R (a0 : List Int) (a1 : List Int) (zt0 : List Int) (zt1 : List Int) : Prop := Ic C F 103 [.ints .u64 a0, .ints .u64 a1] (.tuple [.ints .u64 zt0, .ints .u64 zt1])
def limb_Div_R (a0 : Int) (a1 : Int) (a2 : Int) (zt0 : Int) (zt1 : Int) (zt2 : Int) : Prop := Ic C F 104 [.int .u64 a0, .int .u64 a1, .int .u64 a2] (.tuple [.int .u64 zt0, .int .u64 zt1, .int .i64 zt2])
def limb_Bits_R (a0 : Int) (z : Int) : Prop := Ic C F 105 [.int .u64 a0] (.int .i64 z)
def nat_Shl_R (a0 : List Int) (a1 : Int) (zt0 : List Int) (zt1 : Int) : Prop := Ic C F 106 [.ints .u64 a0, .int .i64 a1] (.tuple [.ints .u64 zt0, .int .i64 zt1])
def divide_guess_R (a0 : List Int) (a1 : Int) (a2 : List Int) (z : Int) : Prop := Ic C F 107 [.ints .u64 a0, .int .i64 a1, .ints .u64 a2] (.int .u64 z)
def nat_Shr_R (a0 : List Int) (a1 : Int) (zt0 : List Int) (zt1 : Int) : Prop := Ic C F 110 [.ints .u64 a0, .int .i64 a1] (.tuple [.ints .u64 zt0, .int .i64 zt1])
def nat_shift_R (a0 : Int) (z : Int) : Prop := Ic C F 111 [.int .i64 a0] (.int .i64 z)
def divide_at_R (a0 : List Int) (a1 : Int) (z : Int) : Prop := Ic C F 112 [.ints .u64 a0, .int .i64 a1] (.int .u64 z)
def slices_SortStableFunc___api_Rat_api_Rat__v0_R (a0 : List T_api_Rat) : Prop := Ic C F 17 [(.list 3 (a0.map E_api_Rat)), .fn 18 [] []] (.tuple [])
def fold_best_v0_R (a1 : List T_api_Rat) (zt0_0 : Bool) (zt0_1 : List Int) (zt0_2 : List Int) (zt1 : Int) : Prop := Ic C F 49 [.fn 50 [] [], (.list 3 (a1.map E_api_Rat))] (.tuple [(.agg [.bool zt0_0, .ints .u64 zt0_1, .ints .u64 zt0_2]), .int .i64 zt1])
def fold_best_v1_R (a1 : List T_api_Rat) (zt0_0 : Bool) (zt0_1 : List Int) (zt0_2 : List Int) (zt1 : Int) : Prop := Ic C F 49 [.fn 51 [] [], (.list 3 (a1.map E_api_Rat))] (.tuple [(.agg [.bool zt0_0, .ints .u64 zt0_1, .ints .u64 zt0_2]), .int .i64 zt1])
def slices_stableCmpFunc_api_Rat__v0_R (a0 : List T_api_Rat) (a1 : Int) : Prop := Ic C F 41 [(.list 3 (a0.map E_api_Rat)), .int .i64 a1, .fn 18 [] []] (.tuple [])
def slices_insertionSortCmpFunc_api_Rat__v0_R (a0 : List T_api_Rat) (a1 : Int) (a2 : Int) : Prop := Ic C F 67 [(.list 3 (a0.map E_api_Rat)), .int .i64 a1, .int .i64 a2, .fn 18 [] []] (.tuple [])
def slices_symMergeCmpFunc_api_Rat__v0_R (a0 : List T_api_Rat) (a1 : Int) (a2 : Int) (a3 : Int) : Prop := Ic C F 68 [(.list 3 (a0.map E_api_Rat)), .int .i64 a1, .int .i64 a2, .int .i64 a3, .fn 18 [] []] (.tuple [])
def slices_rotateCmpFunc_api_Rat__v0_R (a0 : List T_api_Rat) (a1 : Int) (a2 : Int) (a3 : Int) : Prop := Ic C F 82 [(.list 3 (a0.map E_api_Rat)), .int .i64 a1, .int .i64 a2, .int .i64 a3, .fn 18 [] []] (.tuple [])
def slices_swapRangeCmpFunc_api_Rat__v0_R (a0 : List T_api_Rat) (a1 : Int) (a2 : Int) (a3 : Int) : Prop := Ic C F 92 [(.list 3 (a0.map E_api_Rat)), .int .i64 a1, .int .i64 a2, .int .i64 a3, .fn 18 [] []] (.tuple [])
def fold_Sum_S_R (xs : List T_api_Rat) (z_0 : Bool) (z_1 : List Int) (z_2 : List Int) (ys : List T_api_Rat) : Prop := ∀ (cb : Nat → Blk) (ver n : Nat), n = xs.length → ∃ eb : Nat → Blk, Sc C F 52 [.sref 27 ver 3 0 n] [cb 0, cb 1, cb 2, cb 3, cb 4, cb 5, cb 6, cb 7, cb 8, cb 9, cb 10, cb 11, cb 12, cb 13, cb 14, cb 15, cb 16, cb 17, cb 18, cb 19, cb 20, cb 21, cb 22, cb 23, cb 24, cb 25, cb 26, ⟨ver, false, .rows 3 (xs.map E_api_Rat)⟩, cb 28, cb 29, cb 30, cb 31, cb 32, cb 33, cb 34, cb 35, cb 36, cb 37, cb 38, cb 39, cb 40, cb 41, cb 42, cb 43, cb 44, cb 45, cb 46, cb 47, cb 48, cb 49, cb 50, cb 51, cb 52] (.agg [.bool z_0, .ints .u64 z_1, .ints .u64 z_2]) [cb 0, cb 1, cb 2, cb 3, cb 4, cb 5, cb 6, cb 7, cb 8, cb 9, cb 10, cb 11, cb 12, cb 13, cb 14, cb 15, cb 16, cb 17, cb 18, cb 19, cb 20, cb 21, cb 22, cb 23, cb 24, cb 25, cb 26, ⟨ver, false, .rows 3 (ys.map E_api_Rat)⟩, cb 28, cb 29, cb 30, cb 31, cb 32, cb 33, cb 34, cb 35, cb 36, cb 37, cb 38, cb 39, cb 40, cb 41, cb 42, cb 43, cb 44, cb 45, cb 46, cb 47, cb 48, cb 49, cb 50, cb 51, cb 52, eb 0, eb 1, eb 2, eb 3, eb 4, eb 5, eb 6, eb 7, eb 8, eb 9, eb 10, eb 11, eb 12, eb 13, eb 14, eb 15, eb 16, eb 17]
def divide_take_R (xs : List Int) (a1 : Int) (a2 : List Int) (a3 : Int) (z : Bool) (ys : List Int) : Prop := ∀ (cb : Nat → Blk) (ver n : Nat), n = xs.length → Sc C F 108 [.sref 35 ver 1 0 n, .int .i64 a1, .ints .u64 a2, .int .u64 a3] [cb 0, cb 1, cb 2, cb 3, cb 4, cb 5, cb 6, cb 7, cb 8, cb 9, cb 10, cb 11, cb 12, cb 13, cb 14, cb 15, cb 16, cb 17, cb 18, cb 19, cb 20, cb 21, cb 22, cb 23, cb 24, cb 25, cb 26, cb 27, cb 28, cb 29, cb 30, cb 31, cb 32, cb 33, cb 34, ⟨ver, false, .ints .u64 xs⟩, cb 36, cb 37, cb 38, cb 39, cb 40, cb 41, cb 42, cb 43, cb 44, cb 45, cb 46, cb 47, cb 48, cb 49, cb 50, cb 51, cb 52, cb 53, cb 54, cb 55, cb 56, cb 57, cb 58, cb 59, cb 60, cb 61, cb 62, cb 63, cb 64, cb 65, cb 66, cb 67, cb 68, cb 69, cb 70, cb 71, cb 72, cb 73, cb 74, cb 75, cb 76, cb 77, cb 78, cb 79, cb 80, cb 81, cb 82, cb 83, cb 84, cb 85, cb 86, cb 87, cb 88, cb 89, cb 90, cb 91, cb 92, cb 93, cb 94, cb 95, cb 96, cb 97, cb 98, cb 99, cb 100, cb 101, cb 102, cb 103] (.bool z) [cb 0, cb 1, cb 2, cb 3, cb 4, cb 5, cb 6, cb 7, cb 8, cb 9, cb 10, cb 11, cb 12, cb 13, cb 14, cb 15, cb 16, cb 17, cb 18, cb 19, cb 20, cb 21, cb 22, cb 23, cb 24, cb 25, cb 26, cb 27, cb 28, cb 29, cb 30, cb 31, cb 32, cb 33, cb 34, ⟨ver, false, .ints .u64 ys⟩, cb 36, cb 37, cb 38, cb 39, cb 40, cb 41, cb 42, cb 43, cb 44, cb 45, cb 46, cb 47, cb 48, cb 49, cb 50, cb 51, cb 52, cb 53, cb 54, cb 55, cb 56, cb 57, cb 58, cb 59, cb 60, cb 61, cb 62, cb 63, cb 64, cb 65, cb 66, cb 67, cb 68, cb 69, cb 70, cb 71, cb 72, cb 73, cb 74, cb 75, cb 76, cb 77, cb 78, cb 79, cb 80, cb 81, cb 82, cb 83, cb 84, cb 85, cb 86, cb 87, cb 88, cb 89, cb 90, cb 91, cb 92, cb 93, cb 94, cb 95, cb 96, cb 97, cb 98, cb 99, cb 100, cb 101, cb 102, cb 103]
def divide_give_R (xs : List Int) (a1 : Int) (a2 : List Int) (ys : List Int) : Prop := ∀ (cb : Nat → Blk) (ver n : Nat), n = xs.length → Sc C F 109 [.sref 35 ver 1 0 n, .int .i64 a1, .ints .u64 a2] [cb 0, cb 1, cb 2, cb 3, cb 4, cb 5, cb 6, cb 7, cb 8, cb 9, cb 10, cb 11, cb 12, cb 13, cb 14, cb 15, cb 16, cb 17, cb 18, cb 19, cb 20, cb 21, cb 22, cb 23, cb 24, cb 25, cb 26, cb 27, cb 28, cb 29, cb 30, cb 31, cb 32, cb 33, cb 34, ⟨ver, false, .ints .u64 xs⟩, cb 36, cb 37, cb 38, cb 39, cb 40, cb 41, cb 42, cb 43, cb 44, cb 45, cb 46, cb 47, cb 48, cb 49, cb 50, cb 51, cb 52, cb 53, cb 54, cb 55, cb 56, cb 57, cb 58, cb 59, cb 60, cb 61, cb 62, cb 63, cb 64, cb 65, cb 66, cb 67, cb 68, cb 69, cb 70, cb 71, cb 72, cb 73, cb 74, cb 75, cb 76, cb 77, cb 78, cb 79, cb 80, cb 81, cb 82, cb 83, cb 84, cb 85, cb 86, cb 87, cb 88, cb 89, cb 90, cb 91, cb 92, cb 93, cb 94, cb 95, cb 96, cb 97, cb 98, cb 99, cb 100, cb 101, cb 102, cb 103] (.tuple []) [cb 0, cb 1, cb 2, cb 3, cb 4, cb 5, cb 6, cb 7, cb 8, cb 9, cb 10, cb 11, cb 12, cb 13, cb 14, cb 15, cb 16, cb 17, cb 18, cb 19, cb 20, cb 21, cb 22, cb 23, cb 24, cb 25, cb 26, cb 27, cb 28, cb 29, cb 30, cb 31, cb 32, cb 33, cb 34, ⟨ver, false, .ints .u64 ys⟩, cb 36, cb 37, cb 38, cb 39, cb 40, cb 41, cb 42, cb 43, cb 44, cb 45, cb 46, cb 47, cb 48, cb 49, cb 50, cb 51, cb 52, cb 53, cb 54, cb 55, cb 56, cb 57, cb 58, cb 59, cb 60, cb 61, cb 62, cb 63, cb 64, cb 65, cb 66, cb 67, cb 68, cb 69, cb 70, cb 71, cb 72, cb 73, cb 74, cb 75, cb 76, cb 77, cb 78, cb 79, cb 80, cb 81, cb 82, cb 83, cb 84, cb 85, cb 86, cb 87, cb 88, cb 89, cb 90, cb 91, cb 92, cb 93, cb 94, cb 95, cb 96, cb 97, cb 98, cb 99, cb 100, cb 101, cb 102, cb 103]
def slices_SortStableFunc___api_Rat_api_Rat__L1_R (xs : List T_api_Rat) (ys : List T_api_Rat) : Prop := ∀ (cb : Nat → Blk) (ver  n : Nat), n = xs.length → ∃ l : List Blk, Sc C F 17 [.sref 5 ver 3 0 n, .fn 18 [] []] [cb 0, cb 1, cb 2, cb 3, cb 4, ⟨ver, false, .rows 3 (xs.map E_api_Rat)⟩, cb 6, cb 7, cb 8] (.tuple []) ([cb 0, cb 1, cb 2, cb 3, cb 4, ⟨ver, false, .rows 3 (ys.map E_api_Rat)⟩, cb 6, cb 7, cb 8] ++ l)
def slices_stableCmpFunc_api_Rat__L1_R (xs : List T_api_Rat) (a1 : Int) (ys : List T_api_Rat) : Prop := ∀ (cb : Nat → Blk) (ver  n : Nat), n = xs.length → ∃ l : List Blk, Sc C F 41 [.sref 5 ver 3 0 n, .int .i64 a1, .fn 18 [] []] [cb 0, cb 1, cb 2, cb 3, cb 4, ⟨ver, false, .rows 3 (xs.map E_api_Rat)⟩, cb 6, cb 7, cb 8, cb 9, cb 10, cb 11, cb 12, cb 13, cb 14, cb 15, cb 16, cb 17] (.tuple []) ([cb 0, cb 1, cb 2, cb 3, cb 4, ⟨ver, false, .rows 3 (ys.map E_api_Rat)⟩, cb 6, cb 7, cb 8, cb 9, cb 10, cb 11, cb 12, cb 13, cb 14, cb 15, cb 16, cb 17] ++ l)
def slices_insertionSortCmpFunc_api_Rat__L1_R (xs : List T_api_Rat) (a1 : Int) (a2 : Int) (ys : List T_api_Rat) : Prop := ∀ (cb : Nat → Blk) (ver  n : Nat), n = xs.length → ∃ l : List Blk, Sc C F 67 [.sref 5 ver 3 0 n, .int .i64 a1, .int .i64 a2, .fn 18 [] []] [cb 0, cb 1, cb 2, cb 3, cb 4, ⟨ver, false, .rows 3 (xs.map E_api_Rat)⟩, cb 6, cb 7, cb 8, cb 9, cb 10, cb 11, cb 12, cb 13, cb 14, cb 15, cb 16, cb 17, cb 18, cb 19, cb 20, cb 21, cb 22, cb 23, cb 24, cb 25, cb 26, cb 27, cb 28, cb 29, cb 30, cb 31, cb 32, cb 33, cb 34, cb 35, cb 36, cb 37, cb 38, cb 39, cb 40, cb 41, cb 42, cb 43, cb 44, cb 45, cb 46, cb 47, cb 48, cb 49, cb 50, cb 51, cb 52, cb 53, cb 54, cb 55, cb 56, cb 57, cb 58, cb 59, cb 60, cb 61, cb 62, cb 63, cb 64, cb 65, cb 66, cb 67, cb 68, cb 69, cb 70, cb 71, cb 72, cb 73, cb 74, cb 75, cb 76, cb 77, cb 78, cb 79, cb 80] (.tuple []) ([cb 0, cb 1, cb 2, cb 3, cb 4, ⟨ver, false, .rows 3 (ys.map E_api_Rat)⟩, cb 6, cb 7, cb 8, cb 9, cb 10, cb 11, cb 12, cb 13, cb 14, cb 15, cb 16, cb 17, cb 18, cb 19, cb 20, cb 21, cb 22, cb 23, cb 24, cb 25, cb 26, cb 27, cb 28, cb 29, cb 30, cb 31, cb 32, cb 33, cb 34, cb 35, cb 36, cb 37, cb 38, cb 39, cb 40, cb 41, cb 42, cb 43, cb 44, cb 45, cb 46, cb 47, cb 48, cb 49, cb 50, cb 51, cb 52, cb 53, cb 54, cb 55, cb 56, cb 57, cb 58, cb 59, cb 60, cb 61, cb 62, cb 63, cb 64, cb 65, cb 66, cb 67, cb 68, cb 69, cb 70, cb 71, cb 72, cb 73, cb 74, cb 75, cb 76, cb 77, cb 78, cb 79, cb 80] ++ l)
theorem slices_Clone___api_Rat_api_Rat__nil {L : List T_api_Rat} {base : Nat} {t : Tmp} {h : Heap} (hL : L = []) : Ev (fun k => adoptD C (run C F k) base (some t) h 16 [.list 3 (L.map E_api_Rat)]) (.list 3 (([] : List T_api_Rat).map E_api_Rat), h) := by
  subst hL
  exact ⟨30, fun k hk => by
    obtain ⟨n, rfl⟩ := Nat.exists_eq_add_of_le' hk
    kernel_rfl⟩
theorem slices_Clone___api_Rat_api_Rat__ad {L : List T_api_Rat} (hL : ¬ L = []) (hb : (L.length + 192) * (56 + 1) ≤ 70368744177664) : Ad C F 16 [.list 3 (L.map E_api_Rat)] 3 (L.map E_api_Rat) L.length := by
  have h0 : L.length ≠ 0 := fun e => hL (List.length_eq_zero_iff.1 e)
  refine W.ad (zs := [.list 3 (L.map E_api_Rat)]) Tryz.func16 (by kernel_rfl) (by kernel_rfl) (by kernel_rfl) ?_ (by kernel_rfl) h0 ?_ ?_
  · cases L with | nil => exact absurd rfl hL | cons x L => rfl
  · rw [List.all_eq_true]
    intro d hd
    obtain ⟨x, _, rfl⟩ := List.mem_map.1 hd
    exact E_api_Rat_t x
  · skip
    refine W.adv 9 ?_
    refine W.opS (OpIs.nqE (enc := E_api_Rat) (n := 3) (e := 32) (L := L) (by kernel_rfl) hL) ?_
    refine W.adv 9 ?_
    refine W.opH (OpIs.apENil (enc := E_api_Rat) (y := (.list 3 (L.map E_api_Rat))) (B := none) (n := 56) (d := 7) (v := 0) (m := 3) (ys := L) (by kernel_rfl) (by kernel_rfl) rfl hb) ?_
    refine W.adv 4 ?_
    exact W.fin (x := .ret) (by kernel_rfl) ⟨7, 0, by kernel_rfl, by kernel_rfl⟩
end Go.Proofs.YtmdgdgfhgaeddaaGreatA
