/-
  Q5: Ty Pk1 Pk2 Put Pk3.
-/
import Derived.Test.YtldehcnaepgamaaQ3
import Derived.Test.YtldehcnaepgamaaProg
import Derived.KernelRfl
import Derived.RangeFuncNested
import Derived.RangeFuncBound
import Derived.RangeFuncCalls
import Derived.RangeFuncLeaves
import Derived.RangeFuncBox
import Derived.Shelf.Abstract
import Derived.Shelf.RegionOpen
import Derived.WalkKit
import Derived.OwnWalkIn
import Derived.TacticsInMore
import Derived.LoopNIn
import Derived.LoopIn
set_option linter.defProp false
set_option linter.unusedVariables false
set_option linter.unusedSimpArgs false
namespace Go.Proofs.Ytldehcnaepgamaa.AM
open Go

theorem und_3 : (Program.underlying Try.prog 3).isSome = true := by kernel_rfl
theorem agg_3 : tyAgg Try.prog 3 = some false := by kernel_rfl
theorem sz_3 : tySize Try.prog 3 = some 1 := by kernel_rfl
theorem by_3 : tyBytes Try.prog 3 = some 8 := by kernel_rfl
theorem zero_3 : tyZero Try.prog 3 = some [.c (.int .i64 0)] := by kernel_rfl
theorem elem_3 : tyElem Try.prog 3 = none := by kernel_rfl
theorem arr_3 : tyArr Try.prog 3 = none := by kernel_rfl
theorem int_3 : tyInt Try.prog 3 = some .i64 := by kernel_rfl
theorem str_3 : tyStr Try.prog 3 = false := by kernel_rfl
theorem bool_3 : tyBool Try.prog 3 = false := by kernel_rfl
theorem ptr_3 : tyPtr Try.prog 3 = false := by kernel_rfl
theorem zag_3 : tyZag Try.prog 3 = false := by kernel_rfl
theorem map_3 : tyMap Try.prog 3 = none := by kernel_rfl
theorem pl_3 : tyPlaces Try.prog 3 = none := by kernel_rfl
def ty_3 := And.intro und_3 <| And.intro agg_3 <| And.intro sz_3 <| And.intro by_3 <| And.intro zero_3 <| And.intro elem_3 <| And.intro arr_3 <| And.intro int_3 <| And.intro str_3 <| And.intro bool_3 <| And.intro ptr_3 <| And.intro zag_3 <| And.intro map_3 <| pl_3
theorem und_4 : (Program.underlying Try.prog 4).isSome = true := by kernel_rfl
theorem agg_4 : tyAgg Try.prog 4 = some false := by kernel_rfl
theorem sz_4 : tySize Try.prog 4 = some 1 := by kernel_rfl
theorem by_4 : tyBytes Try.prog 4 = some 1 := by kernel_rfl
theorem zero_4 : tyZero Try.prog 4 = some [.c (.bool false)] := by kernel_rfl
theorem elem_4 : tyElem Try.prog 4 = none := by kernel_rfl
theorem arr_4 : tyArr Try.prog 4 = none := by kernel_rfl
theorem int_4 : tyInt Try.prog 4 = none := by kernel_rfl
theorem str_4 : tyStr Try.prog 4 = false := by kernel_rfl
theorem bool_4 : tyBool Try.prog 4 = true := by kernel_rfl
theorem ptr_4 : tyPtr Try.prog 4 = false := by kernel_rfl
theorem zag_4 : tyZag Try.prog 4 = false := by kernel_rfl
theorem map_4 : tyMap Try.prog 4 = none := by kernel_rfl
theorem pl_4 : tyPlaces Try.prog 4 = none := by kernel_rfl
def ty_4 := And.intro und_4 <| And.intro agg_4 <| And.intro sz_4 <| And.intro by_4 <| And.intro zero_4 <| And.intro elem_4 <| And.intro arr_4 <| And.intro int_4 <| And.intro str_4 <| And.intro bool_4 <| And.intro ptr_4 <| And.intro zag_4 <| And.intro map_4 <| pl_4
theorem und_5 : (Program.underlying Try.prog 5).isSome = true := by kernel_rfl
theorem agg_5 : tyAgg Try.prog 5 = some false := by kernel_rfl
theorem sz_5 : tySize Try.prog 5 = some 1 := by kernel_rfl
theorem by_5 : tyBytes Try.prog 5 = some 1 := by kernel_rfl
theorem zero_5 : tyZero Try.prog 5 = some [.c (.int .u8 0)] := by kernel_rfl
theorem elem_5 : tyElem Try.prog 5 = none := by kernel_rfl
theorem arr_5 : tyArr Try.prog 5 = none := by kernel_rfl
theorem int_5 : tyInt Try.prog 5 = some .u8 := by kernel_rfl
theorem str_5 : tyStr Try.prog 5 = false := by kernel_rfl
theorem bool_5 : tyBool Try.prog 5 = false := by kernel_rfl
theorem ptr_5 : tyPtr Try.prog 5 = false := by kernel_rfl
theorem zag_5 : tyZag Try.prog 5 = false := by kernel_rfl
theorem map_5 : tyMap Try.prog 5 = none := by kernel_rfl
theorem pl_5 : tyPlaces Try.prog 5 = none := by kernel_rfl
def ty_5 := And.intro und_5 <| And.intro agg_5 <| And.intro sz_5 <| And.intro by_5 <| And.intro zero_5 <| And.intro elem_5 <| And.intro arr_5 <| And.intro int_5 <| And.intro str_5 <| And.intro bool_5 <| And.intro ptr_5 <| And.intro zag_5 <| And.intro map_5 <| pl_5
theorem und_9 : (Program.underlying Try.prog 9).isSome = true := by kernel_rfl
theorem agg_9 : tyAgg Try.prog 9 = some false := by kernel_rfl
theorem sz_9 : tySize Try.prog 9 = some 1 := by kernel_rfl
theorem by_9 : tyBytes Try.prog 9 = some 16 := by kernel_rfl
theorem zero_9 : tyZero Try.prog 9 = some [.c (.str [])] := by kernel_rfl
theorem elem_9 : tyElem Try.prog 9 = none := by kernel_rfl
theorem arr_9 : tyArr Try.prog 9 = none := by kernel_rfl
theorem int_9 : tyInt Try.prog 9 = none := by kernel_rfl
theorem str_9 : tyStr Try.prog 9 = true := by kernel_rfl
theorem bool_9 : tyBool Try.prog 9 = false := by kernel_rfl
theorem ptr_9 : tyPtr Try.prog 9 = false := by kernel_rfl
theorem zag_9 : tyZag Try.prog 9 = false := by kernel_rfl
theorem map_9 : tyMap Try.prog 9 = none := by kernel_rfl
theorem pl_9 : tyPlaces Try.prog 9 = none := by kernel_rfl
def ty_9 := And.intro und_9 <| And.intro agg_9 <| And.intro sz_9 <| And.intro by_9 <| And.intro zero_9 <| And.intro elem_9 <| And.intro arr_9 <| And.intro int_9 <| And.intro str_9 <| And.intro bool_9 <| And.intro ptr_9 <| And.intro zag_9 <| And.intro map_9 <| pl_9
theorem und_25 : (Program.underlying Try.prog 25).isSome = true := by kernel_rfl
theorem agg_25 : tyAgg Try.prog 25 = some false := by kernel_rfl
theorem sz_25 : tySize Try.prog 25 = some 1 := by kernel_rfl
theorem by_25 : tyBytes Try.prog 25 = some 24 := by kernel_rfl
theorem zero_25 : tyZero Try.prog 25 = some [.nilsl] := by kernel_rfl
theorem elem_25 : tyElem Try.prog 25 = some 5 := by kernel_rfl
theorem arr_25 : tyArr Try.prog 25 = none := by kernel_rfl
theorem int_25 : tyInt Try.prog 25 = none := by kernel_rfl
theorem str_25 : tyStr Try.prog 25 = false := by kernel_rfl
theorem bool_25 : tyBool Try.prog 25 = false := by kernel_rfl
theorem ptr_25 : tyPtr Try.prog 25 = false := by kernel_rfl
theorem zag_25 : tyZag Try.prog 25 = false := by kernel_rfl
theorem map_25 : tyMap Try.prog 25 = none := by kernel_rfl
theorem pl_25 : tyPlaces Try.prog 25 = none := by kernel_rfl
def ty_25 := And.intro und_25 <| And.intro agg_25 <| And.intro sz_25 <| And.intro by_25 <| And.intro zero_25 <| And.intro elem_25 <| And.intro arr_25 <| And.intro int_25 <| And.intro str_25 <| And.intro bool_25 <| And.intro ptr_25 <| And.intro zag_25 <| And.intro map_25 <| pl_25
theorem und_27 : (Program.underlying Try.prog 27).isSome = true := by kernel_rfl
theorem agg_27 : tyAgg Try.prog 27 = some false := by kernel_rfl
theorem sz_27 : tySize Try.prog 27 = some 1 := by kernel_rfl
theorem by_27 : tyBytes Try.prog 27 = some 8 := by kernel_rfl
theorem zero_27 : tyZero Try.prog 27 = some [.c (.int .i64 0)] := by kernel_rfl
theorem elem_27 : tyElem Try.prog 27 = none := by kernel_rfl
theorem arr_27 : tyArr Try.prog 27 = none := by kernel_rfl
theorem int_27 : tyInt Try.prog 27 = some .i64 := by kernel_rfl
theorem str_27 : tyStr Try.prog 27 = false := by kernel_rfl
theorem bool_27 : tyBool Try.prog 27 = false := by kernel_rfl
theorem ptr_27 : tyPtr Try.prog 27 = false := by kernel_rfl
theorem zag_27 : tyZag Try.prog 27 = false := by kernel_rfl
theorem map_27 : tyMap Try.prog 27 = none := by kernel_rfl
theorem pl_27 : tyPlaces Try.prog 27 = none := by kernel_rfl
def ty_27 := And.intro und_27 <| And.intro agg_27 <| And.intro sz_27 <| And.intro by_27 <| And.intro zero_27 <| And.intro elem_27 <| And.intro arr_27 <| And.intro int_27 <| And.intro str_27 <| And.intro bool_27 <| And.intro ptr_27 <| And.intro zag_27 <| And.intro map_27 <| pl_27
theorem und_50 : (Program.underlying Try.prog 50).isSome = true := by kernel_rfl
theorem agg_50 : tyAgg Try.prog 50 = some false := by kernel_rfl
theorem sz_50 : tySize Try.prog 50 = some 1 := by kernel_rfl
theorem by_50 : tyBytes Try.prog 50 = some 24 := by kernel_rfl
theorem zero_50 : tyZero Try.prog 50 = some [.nilsl] := by kernel_rfl
theorem elem_50 : tyElem Try.prog 50 = some 54 := by kernel_rfl
theorem arr_50 : tyArr Try.prog 50 = none := by kernel_rfl
theorem int_50 : tyInt Try.prog 50 = none := by kernel_rfl
theorem str_50 : tyStr Try.prog 50 = false := by kernel_rfl
theorem bool_50 : tyBool Try.prog 50 = false := by kernel_rfl
theorem ptr_50 : tyPtr Try.prog 50 = false := by kernel_rfl
theorem zag_50 : tyZag Try.prog 50 = false := by kernel_rfl
theorem map_50 : tyMap Try.prog 50 = none := by kernel_rfl
theorem pl_50 : tyPlaces Try.prog 50 = none := by kernel_rfl
def ty_50 := And.intro und_50 <| And.intro agg_50 <| And.intro sz_50 <| And.intro by_50 <| And.intro zero_50 <| And.intro elem_50 <| And.intro arr_50 <| And.intro int_50 <| And.intro str_50 <| And.intro bool_50 <| And.intro ptr_50 <| And.intro zag_50 <| And.intro map_50 <| pl_50
theorem und_54 : (Program.underlying Try.prog 54).isSome = true := by kernel_rfl
theorem agg_54 : tyAgg Try.prog 54 = some true := by kernel_rfl
theorem sz_54 : tySize Try.prog 54 = some 5 := by kernel_rfl
theorem by_54 : tyBytes Try.prog 54 = some 48 := by kernel_rfl
theorem zero_54 : tyZero Try.prog 54 = some [.c (.int .i64 0), .c (.int .i64 0), .c (.int .i64 0), .c (.int .i64 0), .c (.str [])] := by kernel_rfl
theorem elem_54 : tyElem Try.prog 54 = none := by kernel_rfl
theorem arr_54 : tyArr Try.prog 54 = none := by kernel_rfl
theorem int_54 : tyInt Try.prog 54 = none := by kernel_rfl
theorem str_54 : tyStr Try.prog 54 = false := by kernel_rfl
theorem bool_54 : tyBool Try.prog 54 = false := by kernel_rfl
theorem ptr_54 : tyPtr Try.prog 54 = false := by kernel_rfl
theorem zag_54 : tyZag Try.prog 54 = true := by kernel_rfl
theorem map_54 : tyMap Try.prog 54 = none := by kernel_rfl
theorem fd_54_0 : tyField Try.prog 54 0 = some (0, 3, 1) := by kernel_rfl
theorem fd_54_1 : tyField Try.prog 54 1 = some (1, 3, 1) := by kernel_rfl
theorem fd_54_2 : tyField Try.prog 54 2 = some (2, 3, 1) := by kernel_rfl
theorem fd_54_3 : tyField Try.prog 54 3 = some (3, 3, 1) := by kernel_rfl
theorem fd_54_4 : tyField Try.prog 54 4 = some (4, 9, 1) := by kernel_rfl
theorem pl_54 : tyPlaces Try.prog 54 = some [(0, 1), (1, 1), (2, 1), (3, 1), (4, 1)] := by kernel_rfl
def ty_54 := And.intro und_54 <| And.intro agg_54 <| And.intro sz_54 <| And.intro by_54 <| And.intro zero_54 <| And.intro elem_54 <| And.intro arr_54 <| And.intro int_54 <| And.intro str_54 <| And.intro bool_54 <| And.intro ptr_54 <| And.intro zag_54 <| And.intro map_54 <| And.intro fd_54_0 <| And.intro fd_54_1 <| And.intro fd_54_2 <| And.intro fd_54_3 <| And.intro fd_54_4 <| pl_54
theorem und_68 : (Program.underlying Try.prog 68).isSome = true := by kernel_rfl
theorem agg_68 : tyAgg Try.prog 68 = some false := by kernel_rfl
theorem sz_68 : tySize Try.prog 68 = some 1 := by kernel_rfl
theorem by_68 : tyBytes Try.prog 68 = some 24 := by kernel_rfl
theorem zero_68 : tyZero Try.prog 68 = some [.nilsl] := by kernel_rfl
theorem elem_68 : tyElem Try.prog 68 = some 74 := by kernel_rfl
theorem arr_68 : tyArr Try.prog 68 = none := by kernel_rfl
theorem int_68 : tyInt Try.prog 68 = none := by kernel_rfl
theorem str_68 : tyStr Try.prog 68 = false := by kernel_rfl
theorem bool_68 : tyBool Try.prog 68 = false := by kernel_rfl
theorem ptr_68 : tyPtr Try.prog 68 = false := by kernel_rfl
theorem zag_68 : tyZag Try.prog 68 = false := by kernel_rfl
theorem map_68 : tyMap Try.prog 68 = none := by kernel_rfl
theorem pl_68 : tyPlaces Try.prog 68 = none := by kernel_rfl
def ty_68 := And.intro und_68 <| And.intro agg_68 <| And.intro sz_68 <| And.intro by_68 <| And.intro zero_68 <| And.intro elem_68 <| And.intro arr_68 <| And.intro int_68 <| And.intro str_68 <| And.intro bool_68 <| And.intro ptr_68 <| And.intro zag_68 <| And.intro map_68 <| pl_68
theorem und_70 : (Program.underlying Try.prog 70).isSome = true := by kernel_rfl
theorem agg_70 : tyAgg Try.prog 70 = some true := by kernel_rfl
theorem sz_70 : tySize Try.prog 70 = some 4 := by kernel_rfl
theorem by_70 : tyBytes Try.prog 70 = some 56 := by kernel_rfl
theorem zero_70 : tyZero Try.prog 70 = some [.c (.int .i64 0), .c (.int .i64 0), .c (.str []), .nilsl] := by kernel_rfl
theorem elem_70 : tyElem Try.prog 70 = none := by kernel_rfl
theorem arr_70 : tyArr Try.prog 70 = none := by kernel_rfl
theorem int_70 : tyInt Try.prog 70 = none := by kernel_rfl
theorem str_70 : tyStr Try.prog 70 = false := by kernel_rfl
theorem bool_70 : tyBool Try.prog 70 = false := by kernel_rfl
theorem ptr_70 : tyPtr Try.prog 70 = false := by kernel_rfl
theorem zag_70 : tyZag Try.prog 70 = true := by kernel_rfl
theorem map_70 : tyMap Try.prog 70 = none := by kernel_rfl
theorem fd_70_0 : tyField Try.prog 70 0 = some (0, 3, 1) := by kernel_rfl
theorem fd_70_1 : tyField Try.prog 70 1 = some (1, 3, 1) := by kernel_rfl
theorem fd_70_2 : tyField Try.prog 70 2 = some (2, 9, 1) := by kernel_rfl
theorem fd_70_3 : tyField Try.prog 70 3 = some (3, 68, 1) := by kernel_rfl
theorem pl_70 : tyPlaces Try.prog 70 = some [(0, 1), (1, 1), (2, 1), (3, 1)] := by kernel_rfl
def ty_70 := And.intro und_70 <| And.intro agg_70 <| And.intro sz_70 <| And.intro by_70 <| And.intro zero_70 <| And.intro elem_70 <| And.intro arr_70 <| And.intro int_70 <| And.intro str_70 <| And.intro bool_70 <| And.intro ptr_70 <| And.intro zag_70 <| And.intro map_70 <| And.intro fd_70_0 <| And.intro fd_70_1 <| And.intro fd_70_2 <| And.intro fd_70_3 <| pl_70
theorem und_72 : (Program.underlying Try.prog 72).isSome = true := by kernel_rfl
theorem agg_72 : tyAgg Try.prog 72 = some true := by kernel_rfl
theorem sz_72 : tySize Try.prog 72 = some 9 := by kernel_rfl
theorem by_72 : tyBytes Try.prog 72 = some 128 := by kernel_rfl
theorem zero_72 : tyZero Try.prog 72 = some [.c (.int .i64 0), .c (.int .i64 0), .c (.str []), .c (.int .i64 0), .c (.int .i64 0), .c (.str []), .nilsl, .nilsl, .c (.str [])] := by kernel_rfl
theorem elem_72 : tyElem Try.prog 72 = none := by kernel_rfl
theorem arr_72 : tyArr Try.prog 72 = none := by kernel_rfl
theorem int_72 : tyInt Try.prog 72 = none := by kernel_rfl
theorem str_72 : tyStr Try.prog 72 = false := by kernel_rfl
theorem bool_72 : tyBool Try.prog 72 = false := by kernel_rfl
theorem ptr_72 : tyPtr Try.prog 72 = false := by kernel_rfl
theorem zag_72 : tyZag Try.prog 72 = true := by kernel_rfl
theorem map_72 : tyMap Try.prog 72 = none := by kernel_rfl
theorem fd_72_0 : tyField Try.prog 72 0 = some (0, 3, 1) := by kernel_rfl
theorem fd_72_1 : tyField Try.prog 72 1 = some (1, 3, 1) := by kernel_rfl
theorem fd_72_2 : tyField Try.prog 72 2 = some (2, 9, 1) := by kernel_rfl
theorem fd_72_3 : tyField Try.prog 72 3 = some (3, 70, 4) := by kernel_rfl
theorem fd_72_4 : tyField Try.prog 72 4 = some (7, 50, 1) := by kernel_rfl
theorem fd_72_5 : tyField Try.prog 72 5 = some (8, 9, 1) := by kernel_rfl
theorem pl_72 : tyPlaces Try.prog 72 = some [(0, 1), (1, 1), (2, 1), (3, 4), (7, 1), (8, 1)] := by kernel_rfl
def ty_72 := And.intro und_72 <| And.intro agg_72 <| And.intro sz_72 <| And.intro by_72 <| And.intro zero_72 <| And.intro elem_72 <| And.intro arr_72 <| And.intro int_72 <| And.intro str_72 <| And.intro bool_72 <| And.intro ptr_72 <| And.intro zag_72 <| And.intro map_72 <| And.intro fd_72_0 <| And.intro fd_72_1 <| And.intro fd_72_2 <| And.intro fd_72_3 <| And.intro fd_72_4 <| And.intro fd_72_5 <| pl_72
theorem und_74 : (Program.underlying Try.prog 74).isSome = true := by kernel_rfl
theorem agg_74 : tyAgg Try.prog 74 = some true := by kernel_rfl
theorem sz_74 : tySize Try.prog 74 = some 7 := by kernel_rfl
theorem by_74 : tyBytes Try.prog 74 = some 72 := by kernel_rfl
theorem zero_74 : tyZero Try.prog 74 = some [.c (.int .i64 0), .c (.int .i64 0), .c (.int .i64 0), .c (.str []), .c (.int .i64 0), .c (.int .i64 0), .c (.str [])] := by kernel_rfl
theorem elem_74 : tyElem Try.prog 74 = none := by kernel_rfl
theorem arr_74 : tyArr Try.prog 74 = none := by kernel_rfl
theorem int_74 : tyInt Try.prog 74 = none := by kernel_rfl
theorem str_74 : tyStr Try.prog 74 = false := by kernel_rfl
theorem bool_74 : tyBool Try.prog 74 = false := by kernel_rfl
theorem ptr_74 : tyPtr Try.prog 74 = false := by kernel_rfl
theorem zag_74 : tyZag Try.prog 74 = true := by kernel_rfl
theorem map_74 : tyMap Try.prog 74 = none := by kernel_rfl
theorem fd_74_0 : tyField Try.prog 74 0 = some (0, 3, 1) := by kernel_rfl
theorem fd_74_1 : tyField Try.prog 74 1 = some (1, 3, 1) := by kernel_rfl
theorem fd_74_2 : tyField Try.prog 74 2 = some (2, 3, 1) := by kernel_rfl
theorem fd_74_3 : tyField Try.prog 74 3 = some (3, 9, 1) := by kernel_rfl
theorem fd_74_4 : tyField Try.prog 74 4 = some (4, 3, 1) := by kernel_rfl
theorem fd_74_5 : tyField Try.prog 74 5 = some (5, 3, 1) := by kernel_rfl
theorem fd_74_6 : tyField Try.prog 74 6 = some (6, 9, 1) := by kernel_rfl
theorem pl_74 : tyPlaces Try.prog 74 = some [(0, 1), (1, 1), (2, 1), (3, 1), (4, 1), (5, 1), (6, 1)] := by kernel_rfl
def ty_74 := And.intro und_74 <| And.intro agg_74 <| And.intro sz_74 <| And.intro by_74 <| And.intro zero_74 <| And.intro elem_74 <| And.intro arr_74 <| And.intro int_74 <| And.intro str_74 <| And.intro bool_74 <| And.intro ptr_74 <| And.intro zag_74 <| And.intro map_74 <| And.intro fd_74_0 <| And.intro fd_74_1 <| And.intro fd_74_2 <| And.intro fd_74_3 <| And.intro fd_74_4 <| And.intro fd_74_5 <| And.intro fd_74_6 <| pl_74
theorem und_76 : (Program.underlying Try.prog 76).isSome = true := by kernel_rfl
theorem agg_76 : tyAgg Try.prog 76 = some true := by kernel_rfl
theorem sz_76 : tySize Try.prog 76 = some 28 := by kernel_rfl
theorem by_76 : tyBytes Try.prog 76 = some 352 := by kernel_rfl
theorem zero_76 : tyZero Try.prog 76 = some [.c (.int .i64 0), .c (.int .i64 0), .c (.int .i64 0), .c (.str []), .c (.int .i64 0), .c (.int .i64 0), .c (.str []), .nilsl, .nilsl, .c (.str []), .c (.int .i64 0), .c (.int .i64 0), .c (.int .i64 0), .c (.str []), .c (.int .i64 0), .c (.int .i64 0), .c (.str []), .c (.int .i64 0), .c (.int .i64 0), .c (.str []), .nilsl, .nilsl, .c (.str []), .c (.int .i64 0), .c (.int .i64 0), .c (.int .i64 0), .c (.int .i64 0), .c (.str [])] := by kernel_rfl
theorem elem_76 : tyElem Try.prog 76 = none := by kernel_rfl
theorem arr_76 : tyArr Try.prog 76 = none := by kernel_rfl
theorem int_76 : tyInt Try.prog 76 = none := by kernel_rfl
theorem str_76 : tyStr Try.prog 76 = false := by kernel_rfl
theorem bool_76 : tyBool Try.prog 76 = false := by kernel_rfl
theorem ptr_76 : tyPtr Try.prog 76 = false := by kernel_rfl
theorem zag_76 : tyZag Try.prog 76 = true := by kernel_rfl
theorem map_76 : tyMap Try.prog 76 = none := by kernel_rfl
theorem fd_76_0 : tyField Try.prog 76 0 = some (0, 3, 1) := by kernel_rfl
theorem fd_76_1 : tyField Try.prog 76 1 = some (1, 72, 9) := by kernel_rfl
theorem fd_76_2 : tyField Try.prog 76 2 = some (10, 74, 7) := by kernel_rfl
theorem fd_76_3 : tyField Try.prog 76 3 = some (17, 70, 4) := by kernel_rfl
theorem fd_76_4 : tyField Try.prog 76 4 = some (21, 68, 1) := by kernel_rfl
theorem fd_76_5 : tyField Try.prog 76 5 = some (22, 9, 1) := by kernel_rfl
theorem fd_76_6 : tyField Try.prog 76 6 = some (23, 54, 5) := by kernel_rfl
theorem pl_76 : tyPlaces Try.prog 76 = some [(0, 1), (1, 9), (10, 7), (17, 4), (21, 1), (22, 1), (23, 5)] := by kernel_rfl
def ty_76 := And.intro und_76 <| And.intro agg_76 <| And.intro sz_76 <| And.intro by_76 <| And.intro zero_76 <| And.intro elem_76 <| And.intro arr_76 <| And.intro int_76 <| And.intro str_76 <| And.intro bool_76 <| And.intro ptr_76 <| And.intro zag_76 <| And.intro map_76 <| And.intro fd_76_0 <| And.intro fd_76_1 <| And.intro fd_76_2 <| And.intro fd_76_3 <| And.intro fd_76_4 <| And.intro fd_76_5 <| And.intro fd_76_6 <| pl_76
theorem und_86 : (Program.underlying Try.prog 86).isSome = true := by kernel_rfl
theorem agg_86 : tyAgg Try.prog 86 = some false := by kernel_rfl
theorem sz_86 : tySize Try.prog 86 = some 1 := by kernel_rfl
theorem by_86 : tyBytes Try.prog 86 = some 8 := by kernel_rfl
theorem zero_86 : tyZero Try.prog 86 = some [.nilptr] := by kernel_rfl
theorem elem_86 : tyElem Try.prog 86 = none := by kernel_rfl
theorem arr_86 : tyArr Try.prog 86 = none := by kernel_rfl
theorem int_86 : tyInt Try.prog 86 = none := by kernel_rfl
theorem str_86 : tyStr Try.prog 86 = false := by kernel_rfl
theorem bool_86 : tyBool Try.prog 86 = false := by kernel_rfl
theorem ptr_86 : tyPtr Try.prog 86 = true := by kernel_rfl
theorem zag_86 : tyZag Try.prog 86 = false := by kernel_rfl
theorem map_86 : tyMap Try.prog 86 = none := by kernel_rfl
theorem pl_86 : tyPlaces Try.prog 86 = none := by kernel_rfl
def ty_86 := And.intro und_86 <| And.intro agg_86 <| And.intro sz_86 <| And.intro by_86 <| And.intro zero_86 <| And.intro elem_86 <| And.intro arr_86 <| And.intro int_86 <| And.intro str_86 <| And.intro bool_86 <| And.intro ptr_86 <| And.intro zag_86 <| And.intro map_86 <| pl_86
theorem und_91 : (Program.underlying Try.prog 91).isSome = true := by kernel_rfl
theorem agg_91 : tyAgg Try.prog 91 = some false := by kernel_rfl
theorem sz_91 : tySize Try.prog 91 = some 1 := by kernel_rfl
theorem by_91 : tyBytes Try.prog 91 = some 8 := by kernel_rfl
theorem zero_91 : tyZero Try.prog 91 = some [.nilptr] := by kernel_rfl
theorem elem_91 : tyElem Try.prog 91 = none := by kernel_rfl
theorem arr_91 : tyArr Try.prog 91 = none := by kernel_rfl
theorem int_91 : tyInt Try.prog 91 = none := by kernel_rfl
theorem str_91 : tyStr Try.prog 91 = false := by kernel_rfl
theorem bool_91 : tyBool Try.prog 91 = false := by kernel_rfl
theorem ptr_91 : tyPtr Try.prog 91 = true := by kernel_rfl
theorem zag_91 : tyZag Try.prog 91 = false := by kernel_rfl
theorem map_91 : tyMap Try.prog 91 = none := by kernel_rfl
theorem pl_91 : tyPlaces Try.prog 91 = none := by kernel_rfl
def ty_91 := And.intro und_91 <| And.intro agg_91 <| And.intro sz_91 <| And.intro by_91 <| And.intro zero_91 <| And.intro elem_91 <| And.intro arr_91 <| And.intro int_91 <| And.intro str_91 <| And.intro bool_91 <| And.intro ptr_91 <| And.intro zag_91 <| And.intro map_91 <| pl_91
theorem und_135 : (Program.underlying Try.prog 135).isSome = true := by kernel_rfl
theorem agg_135 : tyAgg Try.prog 135 = some true := by kernel_rfl
theorem sz_135 : tySize Try.prog 135 = some 3 := by kernel_rfl
theorem by_135 : tyBytes Try.prog 135 = some 40 := by kernel_rfl
theorem zero_135 : tyZero Try.prog 135 = some [.nilsl, .c (.int .i64 0), .c (.bool false)] := by kernel_rfl
theorem elem_135 : tyElem Try.prog 135 = none := by kernel_rfl
theorem arr_135 : tyArr Try.prog 135 = none := by kernel_rfl
theorem int_135 : tyInt Try.prog 135 = none := by kernel_rfl
theorem str_135 : tyStr Try.prog 135 = false := by kernel_rfl
theorem bool_135 : tyBool Try.prog 135 = false := by kernel_rfl
theorem ptr_135 : tyPtr Try.prog 135 = false := by kernel_rfl
theorem zag_135 : tyZag Try.prog 135 = true := by kernel_rfl
theorem map_135 : tyMap Try.prog 135 = none := by kernel_rfl
theorem fd_135_0 : tyField Try.prog 135 0 = some (0, 25, 1) := by kernel_rfl
theorem fd_135_1 : tyField Try.prog 135 1 = some (1, 27, 1) := by kernel_rfl
theorem fd_135_2 : tyField Try.prog 135 2 = some (2, 4, 1) := by kernel_rfl
theorem pl_135 : tyPlaces Try.prog 135 = some [(0, 1), (1, 1), (2, 1)] := by kernel_rfl
def ty_135 := And.intro und_135 <| And.intro agg_135 <| And.intro sz_135 <| And.intro by_135 <| And.intro zero_135 <| And.intro elem_135 <| And.intro arr_135 <| And.intro int_135 <| And.intro str_135 <| And.intro bool_135 <| And.intro ptr_135 <| And.intro zag_135 <| And.intro map_135 <| And.intro fd_135_0 <| And.intro fd_135_1 <| And.intro fd_135_2 <| pl_135
theorem und_138 : (Program.underlying Try.prog 138).isSome = true := by kernel_rfl
theorem agg_138 : tyAgg Try.prog 138 = some true := by kernel_rfl
theorem sz_138 : tySize Try.prog 138 = some 3 := by kernel_rfl
theorem by_138 : tyBytes Try.prog 138 = some 40 := by kernel_rfl
theorem zero_138 : tyZero Try.prog 138 = some [.nilsl, .c (.int .i64 0), .c (.bool false)] := by kernel_rfl
theorem elem_138 : tyElem Try.prog 138 = none := by kernel_rfl
theorem arr_138 : tyArr Try.prog 138 = none := by kernel_rfl
theorem int_138 : tyInt Try.prog 138 = none := by kernel_rfl
theorem str_138 : tyStr Try.prog 138 = false := by kernel_rfl
theorem bool_138 : tyBool Try.prog 138 = false := by kernel_rfl
theorem ptr_138 : tyPtr Try.prog 138 = false := by kernel_rfl
theorem zag_138 : tyZag Try.prog 138 = true := by kernel_rfl
theorem map_138 : tyMap Try.prog 138 = none := by kernel_rfl
theorem fd_138_0 : tyField Try.prog 138 0 = some (0, 25, 1) := by kernel_rfl
theorem fd_138_1 : tyField Try.prog 138 1 = some (1, 27, 1) := by kernel_rfl
theorem fd_138_2 : tyField Try.prog 138 2 = some (2, 4, 1) := by kernel_rfl
theorem pl_138 : tyPlaces Try.prog 138 = some [(0, 1), (1, 1), (2, 1)] := by kernel_rfl
def ty_138 := And.intro und_138 <| And.intro agg_138 <| And.intro sz_138 <| And.intro by_138 <| And.intro zero_138 <| And.intro elem_138 <| And.intro arr_138 <| And.intro int_138 <| And.intro str_138 <| And.intro bool_138 <| And.intro ptr_138 <| And.intro zag_138 <| And.intro map_138 <| And.intro fd_138_0 <| And.intro fd_138_1 <| And.intro fd_138_2 <| pl_138
theorem und_143 : (Program.underlying Try.prog 143).isSome = true := by kernel_rfl
theorem agg_143 : tyAgg Try.prog 143 = some false := by kernel_rfl
theorem sz_143 : tySize Try.prog 143 = some 1 := by kernel_rfl
theorem by_143 : tyBytes Try.prog 143 = some 8 := by kernel_rfl
theorem zero_143 : tyZero Try.prog 143 = some [.c (.int .u64 0)] := by kernel_rfl
theorem elem_143 : tyElem Try.prog 143 = none := by kernel_rfl
theorem arr_143 : tyArr Try.prog 143 = none := by kernel_rfl
theorem int_143 : tyInt Try.prog 143 = some .u64 := by kernel_rfl
theorem str_143 : tyStr Try.prog 143 = false := by kernel_rfl
theorem bool_143 : tyBool Try.prog 143 = false := by kernel_rfl
theorem ptr_143 : tyPtr Try.prog 143 = false := by kernel_rfl
theorem zag_143 : tyZag Try.prog 143 = false := by kernel_rfl
theorem map_143 : tyMap Try.prog 143 = none := by kernel_rfl
theorem pl_143 : tyPlaces Try.prog 143 = none := by kernel_rfl
def ty_143 := And.intro und_143 <| And.intro agg_143 <| And.intro sz_143 <| And.intro by_143 <| And.intro zero_143 <| And.intro elem_143 <| And.intro arr_143 <| And.intro int_143 <| And.intro str_143 <| And.intro bool_143 <| And.intro ptr_143 <| And.intro zag_143 <| And.intro map_143 <| pl_143
theorem und_163 : (Program.underlying Try.prog 163).isSome = true := by kernel_rfl
theorem agg_163 : tyAgg Try.prog 163 = some true := by kernel_rfl
theorem sz_163 : tySize Try.prog 163 = some 4 := by kernel_rfl
theorem by_163 : tyBytes Try.prog 163 = some 32 := by kernel_rfl
theorem zero_163 : tyZero Try.prog 163 = some [.c (.int .i64 0), .c (.int .i64 0), .c (.int .i64 0), .c (.int .i64 0)] := by kernel_rfl
theorem elem_163 : tyElem Try.prog 163 = none := by kernel_rfl
theorem arr_163 : tyArr Try.prog 163 = some (4, 3) := by kernel_rfl
theorem int_163 : tyInt Try.prog 163 = none := by kernel_rfl
theorem str_163 : tyStr Try.prog 163 = false := by kernel_rfl
theorem bool_163 : tyBool Try.prog 163 = false := by kernel_rfl
theorem ptr_163 : tyPtr Try.prog 163 = false := by kernel_rfl
theorem zag_163 : tyZag Try.prog 163 = true := by kernel_rfl
theorem map_163 : tyMap Try.prog 163 = none := by kernel_rfl
theorem pl_163 : tyPlaces Try.prog 163 = none := by kernel_rfl
def ty_163 := And.intro und_163 <| And.intro agg_163 <| And.intro sz_163 <| And.intro by_163 <| And.intro zero_163 <| And.intro elem_163 <| And.intro arr_163 <| And.intro int_163 <| And.intro str_163 <| And.intro bool_163 <| And.intro ptr_163 <| And.intro zag_163 <| And.intro map_163 <| pl_163
theorem und_190 : (Program.underlying Try.prog 190).isSome = true := by kernel_rfl
theorem agg_190 : tyAgg Try.prog 190 = some true := by kernel_rfl
theorem sz_190 : tySize Try.prog 190 = some 3 := by kernel_rfl
theorem by_190 : tyBytes Try.prog 190 = some 32 := by kernel_rfl
theorem zero_190 : tyZero Try.prog 190 = some [.c (.int .i64 0), .c (.int .i64 0), .c (.str [])] := by kernel_rfl
theorem elem_190 : tyElem Try.prog 190 = none := by kernel_rfl
theorem arr_190 : tyArr Try.prog 190 = none := by kernel_rfl
theorem int_190 : tyInt Try.prog 190 = none := by kernel_rfl
theorem str_190 : tyStr Try.prog 190 = false := by kernel_rfl
theorem bool_190 : tyBool Try.prog 190 = false := by kernel_rfl
theorem ptr_190 : tyPtr Try.prog 190 = false := by kernel_rfl
theorem zag_190 : tyZag Try.prog 190 = true := by kernel_rfl
theorem map_190 : tyMap Try.prog 190 = none := by kernel_rfl
theorem fd_190_0 : tyField Try.prog 190 0 = some (0, 3, 1) := by kernel_rfl
theorem fd_190_1 : tyField Try.prog 190 1 = some (1, 3, 1) := by kernel_rfl
theorem fd_190_2 : tyField Try.prog 190 2 = some (2, 9, 1) := by kernel_rfl
theorem pl_190 : tyPlaces Try.prog 190 = some [(0, 1), (1, 1), (2, 1)] := by kernel_rfl
def ty_190 := And.intro und_190 <| And.intro agg_190 <| And.intro sz_190 <| And.intro by_190 <| And.intro zero_190 <| And.intro elem_190 <| And.intro arr_190 <| And.intro int_190 <| And.intro str_190 <| And.intro bool_190 <| And.intro ptr_190 <| And.intro zag_190 <| And.intro map_190 <| And.intro fd_190_0 <| And.intro fd_190_1 <| And.intro fd_190_2 <| pl_190
theorem nt_8 : Try.f8.ntmps = 63 := by kernel_rfl
theorem rs_8 : Try.f8.results.toList = [.tmp 4] := by kernel_rfl
theorem nt_9 : Try.f9.ntmps = 63 := by kernel_rfl
theorem rs_9 : Try.f9.results.toList = [.tmp 6] := by kernel_rfl
theorem nt_37 : Try.f37.ntmps = 16 := by kernel_rfl
theorem rs_37 : Try.f37.results.toList = [.tmp 0] := by kernel_rfl
theorem nt_38 : Try.f38.ntmps = 72 := by kernel_rfl
theorem rs_38 : Try.f38.results.toList = [.tmp 2, .tmp 3] := by kernel_rfl
theorem nt_39 : Try.f39.ntmps = 29 := by kernel_rfl
theorem rs_39 : Try.f39.results.toList = [.cell 2 76, .tmp 3] := by kernel_rfl
theorem nt_40 : Try.f40.ntmps = 52 := by kernel_rfl
theorem rs_40 : Try.f40.results.toList = [.tmp 4] := by kernel_rfl
theorem nt_43 : Try.f43.ntmps = 3 := by kernel_rfl
theorem rs_43 : Try.f43.results.toList = [.tmp 0] := by kernel_rfl
theorem nt_44 : Try.f44.ntmps = 11 := by kernel_rfl
theorem rs_44 : Try.f44.results.toList = [] := by kernel_rfl
theorem nt_45 : Try.f45.ntmps = 36 := by kernel_rfl
theorem rs_45 : Try.f45.results.toList = [.tmp 2, .tmp 3] := by kernel_rfl
theorem nt_46 : Try.f46.ntmps = 30 := by kernel_rfl
theorem rs_46 : Try.f46.results.toList = [.cell 2 54] := by kernel_rfl
theorem nt_47 : Try.f47.ntmps = 7 := by kernel_rfl
theorem rs_47 : Try.f47.results.toList = [.tmp 2] := by kernel_rfl
theorem nt_53 : Try.f53.ntmps = 11 := by kernel_rfl
theorem rs_53 : Try.f53.results.toList = [] := by kernel_rfl
theorem nt_55 : Try.f55.ntmps = 37 := by kernel_rfl
theorem rs_55 : Try.f55.results.toList = [.cell 2 74] := by kernel_rfl
theorem nt_69 : Try.f69.ntmps = 21 := by kernel_rfl
theorem rs_69 : Try.f69.results.toList = [.tmp 2] := by kernel_rfl
theorem nt_76 : Try.f76.ntmps = 9 := by kernel_rfl
theorem rs_76 : Try.f76.results.toList = [.tmp 2] := by kernel_rfl
theorem nt_78 : Try.f78.ntmps = 3 := by kernel_rfl
theorem rs_78 : Try.f78.results.toList = [.tmp 0] := by kernel_rfl
theorem nt_79 : Try.f79.ntmps = 18 := by kernel_rfl
theorem rs_79 : Try.f79.results.toList = [.tmp 2] := by kernel_rfl
theorem nt_80 : Try.f80.ntmps = 40 := by kernel_rfl
theorem rs_80 : Try.f80.results.toList = [] := by kernel_rfl
theorem nt_81 : Try.f81.ntmps = 15 := by kernel_rfl
theorem rs_81 : Try.f81.results.toList = [] := by kernel_rfl
theorem nt_82 : Try.f82.ntmps = 34 := by kernel_rfl
theorem rs_82 : Try.f82.results.toList = [] := by kernel_rfl
theorem nt_83 : Try.f83.ntmps = 40 := by kernel_rfl
theorem rs_83 : Try.f83.results.toList = [] := by kernel_rfl
theorem nt_84 : Try.f84.ntmps = 49 := by kernel_rfl
theorem rs_84 : Try.f84.results.toList = [.cell 2 76] := by kernel_rfl
theorem nt_85 : Try.f85.ntmps = 16 := by kernel_rfl
theorem rs_85 : Try.f85.results.toList = [.tmp 2] := by kernel_rfl
theorem nt_86 : Try.f86.ntmps = 11 := by kernel_rfl
theorem rs_86 : Try.f86.results.toList = [.tmp 2] := by kernel_rfl
theorem nt_87 : Try.f87.ntmps = 45 := by kernel_rfl
theorem rs_87 : Try.f87.results.toList = [.tmp 4] := by kernel_rfl
theorem nt_88 : Try.f88.ntmps = 31 := by kernel_rfl
theorem rs_88 : Try.f88.results.toList = [.tmp 4] := by kernel_rfl
theorem nt_89 : Try.f89.ntmps = 26 := by kernel_rfl
theorem rs_89 : Try.f89.results.toList = [.tmp 4] := by kernel_rfl
theorem nt_90 : Try.f90.ntmps = 46 := by kernel_rfl
theorem rs_90 : Try.f90.results.toList = [.tmp 2] := by kernel_rfl
theorem nt_92 : Try.f92.ntmps = 24 := by kernel_rfl
theorem rs_92 : Try.f92.results.toList = [] := by kernel_rfl
theorem nt_93 : Try.f93.ntmps = 8 := by kernel_rfl
theorem rs_93 : Try.f93.results.toList = [.tmp 2] := by kernel_rfl
theorem nt_94 : Try.f94.ntmps = 37 := by kernel_rfl
theorem rs_94 : Try.f94.results.toList = [.tmp 4] := by kernel_rfl
theorem nt_95 : Try.f95.ntmps = 34 := by kernel_rfl
theorem rs_95 : Try.f95.results.toList = [.tmp 4] := by kernel_rfl
theorem nt_96 : Try.f96.ntmps = 43 := by kernel_rfl
theorem rs_96 : Try.f96.results.toList = [.tmp 2] := by kernel_rfl
theorem nt_97 : Try.f97.ntmps = 9 := by kernel_rfl
theorem rs_97 : Try.f97.results.toList = [.tmp 2] := by kernel_rfl
theorem nt_99 : Try.f99.ntmps = 30 := by kernel_rfl
theorem rs_99 : Try.f99.results.toList = [] := by kernel_rfl
theorem nt_118 : Try.f118.ntmps = 78 := by kernel_rfl
theorem rs_118 : Try.f118.results.toList = [.cell 2 76, .tmp 3] := by kernel_rfl
theorem nt_119 : Try.f119.ntmps = 52 := by kernel_rfl
theorem rs_119 : Try.f119.results.toList = [.tmp 4] := by kernel_rfl
theorem nt_120 : Try.f120.ntmps = 13 := by kernel_rfl
theorem rs_120 : Try.f120.results.toList = [] := by kernel_rfl
theorem nt_121 : Try.f121.ntmps = 41 := by kernel_rfl
theorem rs_121 : Try.f121.results.toList = [] := by kernel_rfl
theorem nt_122 : Try.f122.ntmps = 31 := by kernel_rfl
theorem rs_122 : Try.f122.results.toList = [.cell 2 72] := by kernel_rfl
theorem nt_123 : Try.f123.ntmps = 28 := by kernel_rfl
theorem rs_123 : Try.f123.results.toList = [.cell 2 70] := by kernel_rfl
theorem nt_124 : Try.f124.ntmps = 18 := by kernel_rfl
theorem rs_124 : Try.f124.results.toList = [.tmp 2] := by kernel_rfl
theorem nt_125 : Try.f125.ntmps = 26 := by kernel_rfl
theorem rs_125 : Try.f125.results.toList = [.tmp 4] := by kernel_rfl
theorem nt_126 : Try.f126.ntmps = 32 := by kernel_rfl
theorem rs_126 : Try.f126.results.toList = [.tmp 4] := by kernel_rfl
theorem nt_127 : Try.f127.ntmps = 11 := by kernel_rfl
theorem rs_127 : Try.f127.results.toList = [] := by kernel_rfl
theorem nt_128 : Try.f128.ntmps = 28 := by kernel_rfl
theorem rs_128 : Try.f128.results.toList = [.tmp 2] := by kernel_rfl
theorem nt_129 : Try.f129.ntmps = 17 := by kernel_rfl
theorem rs_129 : Try.f129.results.toList = [.tmp 2] := by kernel_rfl
theorem nt_138 : Try.f138.ntmps = 75 := by kernel_rfl
theorem rs_138 : Try.f138.results.toList = [.tmp 2] := by kernel_rfl
theorem nt_139 : Try.f139.ntmps = 11 := by kernel_rfl
theorem rs_139 : Try.f139.results.toList = [.tmp 2] := by kernel_rfl
theorem nt_140 : Try.f140.ntmps = 6 := by kernel_rfl
theorem rs_140 : Try.f140.results.toList = [.tmp 2] := by kernel_rfl
theorem nt_141 : Try.f141.ntmps = 32 := by kernel_rfl
theorem rs_141 : Try.f141.results.toList = [.tmp 2] := by kernel_rfl
theorem nt_142 : Try.f142.ntmps = 45 := by kernel_rfl
theorem rs_142 : Try.f142.results.toList = [.tmp 4] := by kernel_rfl
theorem nt_143 : Try.f143.ntmps = 17 := by kernel_rfl
theorem rs_143 : Try.f143.results.toList = [.tmp 4] := by kernel_rfl
theorem nt_144 : Try.f144.ntmps = 26 := by kernel_rfl
theorem rs_144 : Try.f144.results.toList = [.tmp 4] := by kernel_rfl
theorem nt_145 : Try.f145.ntmps = 35 := by kernel_rfl
theorem rs_145 : Try.f145.results.toList = [.cell 2 72, .tmp 3] := by kernel_rfl
theorem nt_155 : Try.f155.ntmps = 6 := by kernel_rfl
theorem rs_155 : Try.f155.results.toList = [.tmp 2] := by kernel_rfl
theorem nt_156 : Try.f156.ntmps = 9 := by kernel_rfl
theorem rs_156 : Try.f156.results.toList = [.tmp 4] := by kernel_rfl
theorem nt_157 : Try.f157.ntmps = 9 := by kernel_rfl
theorem rs_157 : Try.f157.results.toList = [.tmp 4] := by kernel_rfl
theorem nt_158 : Try.f158.ntmps = 26 := by kernel_rfl
theorem rs_158 : Try.f158.results.toList = [.tmp 4] := by kernel_rfl
theorem nt_159 : Try.f159.ntmps = 10 := by kernel_rfl
theorem rs_159 : Try.f159.results.toList = [.cell 2 190] := by kernel_rfl
theorem nt_163 : Try.f163.ntmps = 19 := by kernel_rfl
theorem rs_163 : Try.f163.results.toList = [.tmp 4] := by kernel_rfl
theorem nt_164 : Try.f164.ntmps = 19 := by kernel_rfl
theorem rs_164 : Try.f164.results.toList = [.tmp 4] := by kernel_rfl
theorem mixed : Try.prog.follows .mixedOrders = true := by kernel_rfl

def faultC : Contract := fun args objs => match args, objs with
  | [.ptr n 0, .c (.int .i64 e')], [[.own 1 rows, .c (.int .i64 e), .c (.bool made)]] =>
    if n = inObj 0 then some ⟨[], [[.own 1 rows, .c (.int .i64 (if e = 0 then e' else e)), .c (.bool made)]]⟩ else none
  | _, _ => none

theorem fault_sound : SoundC Try.prog 120 faultC := by
  refine sound_fn Try.func120 (by kernel_rfl) rfl rfl ?_
  intro args objs r hr
  unfold faultC at hr
  split at hr
  · rename_i n e' rows e made
    split at hr
    · rename_i hn
      subst hn
      cases hr
      refine ⟨rfl, by show 2 ≤ _; decide, fun E hN hns hF => ?_⟩
      refine vc_sound none0_sound mixed _ _ _ ?_
      have hN := hN.trans nt_120
      simp only [runA, runB, runC, runD, runE, runF, fieldE, storeE, binE, ↓reduceIte, Nat.reduceLT, Nat.reduceLeDiff, Nat.reduceEqDiff, Nat.reduceAdd, Nat.reduceMul, Nat.reduceSub, reduceCtorEq, putAt, unE, Nat.reduceBEq, convE, buildE, List.replicate, Int.reduceLT, Int.reduceLE, Int.reduceToNat, mkE, mapSetE, hN, hF, ty_4, ty_25, ty_27, ty_135]
      refine branch_intro (fun hc => ?_) (fun hc => ?_)
      all_goals
        simp only [beq_iff_eq, beq_eq_false_iff_ne, ne_eq] at hc
        simp only [runB, finC, finD, Option.isSome_some, Option.isSome_none, ↓reduceIte, Nat.reduceEqDiff, Nat.reduceAdd, Nat.reduceMul, forall_eq_or_imp, forall_eq, implies_true, Nat.reduceBEq, reduceCtorEq, false_implies, List.zip_cons_cons, List.zip_nil_left, List.zip_nil_right, Nat.reduceLeDiff, List.forall_mem_nil, rs_120, hc]
    · cases hr
  · cases hr


/-- A number's octets. -/
def putB (n : Int) (size : Int) : List UInt8 :=
  (List.range (min (max size 0) 8).toNat).map fun (i : Nat) => UInt8.ofNat ((IntKind.u64.wrap n).toNat / 256 ^ ((min (max size 0) 8).toNat - 1 - i) % 256)

def putC : Contract := fun args objs => match args, objs with
  | [.c (.int .i64 n), .c (.int .i64 size)], [] => if 0 ≤ size ∧ size ≤ 8 then some ⟨[.fresh 1 (bytes (putB n size))], []⟩ else none
  | _, _ => none

def cloneC : Contract := fun args objs => match args, objs with
  | [.c (.sl rows)], [] => if rowsOK 1 rows ∧ rows.length ≤ 140737488355328 then some ⟨[.fresh 1 rows], []⟩ else none
  | _, _ => none

theorem clone_sound : SoundC Try.prog 93 cloneC := by
  refine sound_fn Try.func93 (by kernel_rfl) rfl rfl ?_
  intro args objs r hr
  unfold cloneC at hr
  split at hr
  · rename_i rows
    split at hr
    · rename_i hc
      cases hr
      refine ⟨rfl, by show 1 ≤ _; decide, fun E hN hns hF => ?_⟩
      refine vc_sound none0_sound mixed _ _ _ ?_
      have hN := hN.trans nt_93
      have hz : rowsOK 1 [] := fun _ h => by cases h
      cases rows with
      | nil =>
        simp only [runA, runB, runC, runD, runE, runF, fieldE, storeE, binE, ↓reduceIte, Nat.reduceLT, Nat.reduceLeDiff, Nat.reduceEqDiff, Nat.reduceAdd, Nat.reduceMul, Nat.reduceSub, reduceCtorEq, putAt, unE, Nat.reduceBEq, convE, buildE, List.replicate, Int.reduceLT, Int.reduceLE, Int.reduceToNat, mkE, mapSetE, hN, hF, ty_5, ty_25, notIf, isEq, hz]
        constructor
        all_goals simp only [runB, finC, finD, Option.isSome_some, Option.isSome_none, ↓reduceIte, Nat.reduceEqDiff, Nat.reduceAdd, Nat.reduceMul, forall_eq_or_imp, forall_eq, implies_true, Nat.reduceBEq, reduceCtorEq, false_implies, List.zip_cons_cons, List.zip_nil_left, List.zip_nil_right, Nat.reduceLeDiff, List.forall_mem_nil, rs_93]
      | cons x rows =>
        obtain ⟨h1, h2⟩ := hc
        rw [List.length_cons] at h2
        simp only [runA, runB, runC, runD, runE, runF, fieldE, storeE, binE, ↓reduceIte, Nat.reduceLT, Nat.reduceLeDiff, Nat.reduceEqDiff, Nat.reduceAdd, Nat.reduceMul, Nat.reduceSub, reduceCtorEq, putAt, unE, Nat.reduceBEq, convE, buildE, List.replicate, Int.reduceLT, Int.reduceLE, Int.reduceToNat, mkE, mapSetE, hN, hF, ty_5, ty_25, notIf, isEq, h1, h2]
        simp only [runB, finC, finD, Option.isSome_some, Option.isSome_none, ↓reduceIte, Nat.reduceEqDiff, Nat.reduceAdd, Nat.reduceMul, forall_eq_or_imp, forall_eq, implies_true, Nat.reduceBEq, reduceCtorEq, false_implies, List.zip_cons_cons, List.zip_nil_left, List.zip_nil_right, Nat.reduceLeDiff, List.forall_mem_nil, rs_93]
    · cases hr
  · cases hr

theorem bytes_length (l : List UInt8) : (bytes l).length = l.length := by simp [bytes]
theorem bytes_append (a b : List UInt8) : bytes (a ++ b) = bytes a ++ bytes b := by simp [bytes]
theorem rowsOK_bytes (l : List UInt8) : rowsOK 1 (bytes l) := by
  intro r hr
  simp only [bytes, List.mem_map] at hr
  obtain ⟨b, _, rfl⟩ := hr
  rfl
/-- Rows that are octets, as octets. -/
def asB : List (List PC) → Option (List UInt8)
  | [] => some []
  | [.int .u8 n] :: rows => if 0 ≤ n ∧ n < 256 then match asB rows with | some l => some (UInt8.ofNat n.toNat :: l) | none => none else none
  | _ => none
theorem asB_bytes (l : List UInt8) : asB (bytes l) = some l := by
  induction l with
  | nil => rfl
  | cons b l ih =>
    unfold bytes at ih ⊢
    simp only [List.map_cons, asB, ih]
    have : (b.toNat : Int) < 256 := by have := b.toNat_lt; omega
    simp [this]
theorem asB_inv : ∀ {rows : List (List PC)} {l : List UInt8}, asB rows = some l → rows = bytes l
  | [], l, h => by simp only [asB, Option.some.injEq] at h; subst h; rfl
  | [.int .u8 n] :: rows, l, h => by
    simp only [asB] at h
    split at h
    · rename_i hn
      split at h
      · rename_i l' hl
        cases h
        rw [asB_inv hl]
        simp only [bytes, List.map_cons, List.cons.injEq, PC.int.injEq, true_and, and_true]
        have h1 : n.toNat < 256 := by omega
        rw [UInt8.toNat_ofNat_of_lt' h1]
        omega
      · cases h
    · cases h
theorem bytes_app (a b : List UInt8) : bytes a ++ bytes b = bytes (a ++ b) := (bytes_append a b).symm

/-- A writer's cells. -/
abbrev wOV (b : List UInt8) (e : Int) (made : Bool) : List OV := [.own 1 (bytes b), .c (.int .i64 e), .c (.bool made)]
structure WS where
  b : List UInt8
  e : Int
  deriving DecidableEq
def wNum (w : WS) (n : Int) : WS := if n < 0 ∨ 1099511627776 < n then ⟨w.b, if w.e = 0 then 4 else w.e⟩ else if w.b.length ≤ 16384 then ⟨w.b ++ putB n 6, w.e⟩ else w
def numC : Contract := fun args objs => match args, objs with
  | [.nilptr, .c (.int .i64 n)], [] => some ⟨[], []⟩
  | [.ptr p 0, .c (.int .i64 n)], [[.own 1 rows, .c (.int .i64 e), .c (.bool made)]] => match asB rows with
    | some b => if p = inObj 0 ∧ b.length ≤ 100000 then
        if made then some ⟨[], [wOV (wNum ⟨b, e⟩ n).b (wNum ⟨b, e⟩ n).e true]⟩ else some ⟨[], [wOV b e false]⟩ else none
    | none => none
  | _, _ => none

variable {Γ : FuncId → Contract}
theorem putB_length (n size : Int) : (putB n size).length = (min (max size 0) 8).toNat := by simp [putB]

set_option maxHeartbeats 4000000 in
theorem num_sound (hΓ : SoundG Try.prog Γ) (h53 : Γ 57 = putC) (h52 : Γ 120 = faultC) : SoundC Try.prog 80 numC := by
  refine sound_fn Try.func80 (by kernel_rfl) rfl rfl ?_
  intro args objs r hr
  unfold numC at hr
  split at hr
  · cases hr
    refine ⟨rfl, by show 2 ≤ _; decide, fun E hN hns hF => ?_⟩
    refine vc_sound hΓ mixed _ _ _ ?_
    have hN := hN.trans nt_80
    simp only [runA, runB, runC, runD, runE, runF, fieldE, storeE, binE, ↓reduceIte, Nat.reduceLT, Nat.reduceLeDiff, Nat.reduceEqDiff, Nat.reduceAdd, Nat.reduceMul, Nat.reduceSub, reduceCtorEq, putAt, unE, Nat.reduceBEq, convE, buildE, List.replicate, Int.reduceLT, Int.reduceLE, Int.reduceToNat, mkE, mapSetE, hN, hF, ty_3, ty_4, ty_5, ty_25, ty_27, ty_86, ty_135, notIf, isEq]
    simp only [runB, finC, finD, Option.isSome_some, Option.isSome_none, ↓reduceIte, Nat.reduceEqDiff, Nat.reduceAdd, Nat.reduceMul, forall_eq_or_imp, forall_eq, implies_true, Nat.reduceBEq, reduceCtorEq, false_implies, List.zip_cons_cons, List.zip_nil_left, List.zip_nil_right, Nat.reduceLeDiff, List.forall_mem_nil, rs_80]
  · split at hr
    · rename_i n rows e made _ b hb
      split at hr
      · rename_i hc
        obtain ⟨rfl, hlen⟩ := hc
        obtain rfl := asB_inv hb
        split at hr
        · rename_i hm
          cases hr
          refine ⟨rfl, by show 2 ≤ _; decide, fun E hN hns hF => ?_⟩
          refine vc_sound hΓ mixed _ _ _ ?_
          have hN := hN.trans nt_80
          subst hm
          have hz := rowsOK_bytes (putB n 6)
          have hL : b.length + (putB n 6).length ≤ 140737488355328 := by rw [putB_length]; omega
          have hL0 : (putB n 6).length ≤ 140737488355328 := by rw [putB_length]; omega
          cases h1 : decide (n < 0) <;> cases h2 : decide (n > 1099511627776) <;> cases h3 : decide ((b.length : Int) ≤ 16384) <;> cases h4 : (e == 0)
          all_goals
            simp only [runA, runB, runC, runD, runE, runF, fieldE, storeE, binE, ↓reduceIte, Nat.reduceLT, Nat.reduceLeDiff, Nat.reduceEqDiff, Nat.reduceAdd, Nat.reduceMul, Nat.reduceSub, reduceCtorEq, putAt, unE, Nat.reduceBEq, convE, buildE, List.replicate, Int.reduceLT, Int.reduceLE, Int.reduceToNat, mkE, mapSetE, hN, hF, ty_3, ty_4, ty_5, ty_25, ty_27, ty_86, ty_135, notIf, isEq, h1, h2, h3, h4, h52, h53, faultC, putC, bytes_length, bytes_app, hz, hL, hL0]
          all_goals try refine drawnP_intro (by kernel_rfl) (by kernel_rfl) ?_
          all_goals
            simp only [decide_eq_false_iff_not, decide_eq_true_eq, beq_iff_eq, beq_eq_false_iff_ne, ne_eq] at h1 h2 h3 h4
          all_goals
            simp only [runB, finC, finD, Option.isSome_some, Option.isSome_none, ↓reduceIte, Nat.reduceEqDiff, Nat.reduceAdd, Nat.reduceMul, forall_eq_or_imp, forall_eq, implies_true, Nat.reduceBEq, reduceCtorEq, false_implies, List.zip_cons_cons, List.zip_nil_left, List.zip_nil_right, Nat.reduceLeDiff, List.forall_mem_nil, rs_80, inBlockA_normal, bytes_length]
          all_goals
            have h3' := h3
            rw [show (16384 : Int) = ((16384 : Nat) : Int) from rfl, Int.ofNat_le] at h3'
            simp [wNum, h1, h2, h3', h4]
        · rename_i hm
          cases hr
          refine ⟨rfl, by show 2 ≤ _; decide, fun E hN hns hF => ?_⟩
          refine vc_sound hΓ mixed _ _ _ ?_
          have hN := hN.trans nt_80
          have hm : made = false := by simpa using hm
          subst hm
          simp only [runA, runB, runC, runD, runE, runF, fieldE, storeE, binE, ↓reduceIte, Nat.reduceLT, Nat.reduceLeDiff, Nat.reduceEqDiff, Nat.reduceAdd, Nat.reduceMul, Nat.reduceSub, reduceCtorEq, putAt, unE, Nat.reduceBEq, convE, buildE, List.replicate, Int.reduceLT, Int.reduceLE, Int.reduceToNat, mkE, mapSetE, hN, hF, ty_3, ty_4, ty_5, ty_25, ty_27, ty_86, ty_135, notIf, isEq]
          simp only [runB, finC, finD, Option.isSome_some, Option.isSome_none, ↓reduceIte, Nat.reduceEqDiff, Nat.reduceAdd, Nat.reduceMul, forall_eq_or_imp, forall_eq, implies_true, Nat.reduceBEq, reduceCtorEq, false_implies, List.zip_cons_cons, List.zip_nil_left, List.zip_nil_right, Nat.reduceLeDiff, List.forall_mem_nil, rs_80, bytes_length]
      · cases hr
    · cases hr
  · cases hr

open Go Go.Proofs Go.RowKit Go.Shelf
attribute [local go_sem] Oper.semAt_some

/-- The box holds the slice, the slice's places hold octets. -/
def Rd (Bs b k cap : Nat) (W : World) : Prop :=
  W.cell? ⟨Bs, 0, none⟩ = some (.slice (some ⟨b, 0, none⟩) k cap) ∧ ∀ j, j < k → ∃ x, W.cell? ⟨b, j, none⟩ = some (.int .u8 x)

set_option maxRecDepth 100000 in
set_option maxHeartbeats 4000000 in
theorem back1_in (F : Fence) (n : Nat) (h7 : F.fn 132) (hro : F.round = none) (hn : 1 ≤ n) (l Bs b k cap : Nat) (hk : k ≤ 140737488351232) (J Jx : List (Nat × Value) → World → Prop)
    (hY : ∀ pre x W, J pre W → pre.length < k → x.1 < k → YieldAt F (n - 1) Try.prog l #[.int .i64 (x.1 : Int), x.2] W fun e W' =>
      (e = .returned (.bool true) ∧ J (pre ++ [x]) W' ∧ (Rd Bs b k cap W → Rd Bs b k cap W')) ∨ (e = .returned (.bool false) ∧ Jx (pre ++ [x]) W'))
    (W : World) (hR : Rd Bs b k cap W) (h0 : J [] W) :
    CallsIn F n Try.prog 132 #[.func (.yield l) #[] #[], .pointer (some ⟨Bs, 0, none⟩)] W fun e W' => (∃ v, e = .returned v) ∧
      ((∃ ys, ys.map (·.1) = (List.range k).map (fun m => k - 1 - m) ∧ J ys W') ∨ (∃ pre, True ∧ Jx pre W')) := by
  refine callsIn_of_wp Try.func132 rfl h7 ?_ hro
  simp only [Try.ntmps132, List.size_toArray, List.length_cons, List.length_nil, Nat.reduceAdd, Nat.reduceSub, Array.replicate_succ, Array.replicate_zero, List.push_toArray, List.append_toArray, List.nil_append, List.cons_append]
  have hbox := hR.1
  gi_wp2
  gi_loopw [3] (fun i wr => ∃ (m : Nat) (ys : List (Nat × Value)), m ≤ k ∧ i = .int .i64 ((k : Int) - 1 - m) ∧ ys.map (·.1) = (List.range m).map (fun j => k - 1 - j) ∧ J ys wr ∧ Rd Bs b k cap wr)
    (fun i _ => (intOf i + 1).toNat)
  case atStart => exact ⟨0, [], Nat.zero_le _, by simp, rfl, h0, hR⟩
  case round =>
    obtain ⟨m, ys, hm, rfl, hys, hJs, hRs⟩ := hrel
    by_cases hlt : m < k
    · obtain ⟨x, hx⟩ := hRs.2 (k - 1 - m) (by omega)
      obtain ⟨fn, tmps, assign, body, hy, hR1⟩ := hY ys (k - 1 - m, .int .u8 x) wr hJs (by have := congrArg List.length hys; simp at this; omega) (by omega)
      dsimp only at hy
      have hbx := hRs.1
      have e1 : ((k - 1 - m : Nat) : Int) = (k : Int) - 1 - m := by omega
      rw [e1] at hy
      gi_wp2
      refine hR1.mono ?_
      rintro e W3 (⟨rfl, hJ3, hk3⟩ | ⟨rfl, hJx3⟩)
      · gi_wp2
        go_roundw
        case rel => exact ⟨m + 1, ys ++ [(k - 1 - m, .int .u8 x)], by omega, by congr 1; omega, by simp [hys, List.range_succ], hJ3, hk3 hRs⟩
        case measure => simp [intOf]; omega
      · gi_wp2
        refine bodyPost_ret (results_none rfl _ _ _) rfl ?_
        exact ⟨⟨_, rfl⟩, .inr ⟨_, trivial, hJx3⟩⟩
    · obtain rfl : m = k := by omega
      gi_wp2
      go_end0
      exact ⟨⟨_, rfl⟩, .inl ⟨ys, hys, hJs⟩⟩

/-- slices.Backward: the slice is boxed. -/
theorem back_in (F : Fence) (n : Nat) (h5 : F.fn 101) (hro : F.round = none) (a : Option Addr) (len cap : Nat) (w : World) :
    CallsIn F n Try.prog 101 #[.slice a len cap] w fun e w' => e = .returned (.func (.func 132) #[] #[.pointer (some ⟨w.heap.size, 0, none⟩)]) ∧ w' = w.alloc (.cells #[.slice a len cap] 25) := by
  refine callsIn_of_wp Try.func101 rfl h5 ?_ hro
  simp only [Try.ntmps101, List.size_toArray, List.length_cons, List.length_nil, Nat.reduceAdd, Nat.reduceSub, Array.replicate_succ, Array.replicate_zero, List.push_toArray, List.append_toArray, List.nil_append, List.cons_append]
  gi_wp2
  go_ret
  exact ⟨rfl, rfl⟩

theorem Rd.putObj {Bs b k cap l : Nat} {W : World} (h : Rd Bs b k cap W) (o : Obj) (h1 : Bs ≠ l) (h2 : b ≠ l) : Rd Bs b k cap (W.putObj l o) := by
  have e : ∀ (c j : Nat), c ≠ l → (W.putObj l o).cell? ⟨c, j, none⟩ = W.cell? ⟨c, j, none⟩ := fun c j hc => by
    simp only [World.cell?, World.putObj_heap_other hc]
  exact ⟨by rw [e _ _ h1]; exact h.1, fun j hj => by rw [e _ _ h2]; exact h.2 j hj⟩

theorem Rd.below {Bs b k cap B : Nat} {A W : World} (h : Rd Bs b k cap A) (hb : Below B A W) (h1 : Bs < B) (h2 : b < B) : Rd Bs b k cap W :=
  ⟨(hb.cell (p := ⟨Bs, 0, none⟩) h1).trans h.1, fun j hj => let ⟨x, hx⟩ := h.2 j hj; ⟨x, (hb.cell (p := ⟨b, j, none⟩) h2).trans hx⟩⟩

theorem back_stops (F : Fence) (n : Nat) (h7 : F.fn 132) (hro : F.round = none) (hn : 1 ≤ n) (Bs b k cap : Nat) (hk : k ≤ 140737488351232) (w : World) (hBs : Bs < w.heap.size) (hb : b < w.heap.size)
    (hR : Rd Bs b k cap w) :
    SeqStopsK F n Try.prog 132 #[.pointer (some ⟨Bs, 0, none⟩)] (fun x : Fin k × Value => #[Value.int .i64 ((x.1.val : Nat) : Int), x.2]) (fun A B => Rd Bs b k cap A → Rd Bs b k cap B)
      (fun ys => ys.map (fun x => x.1.val) = (List.range k).map (fun m => k - 1 - m)) (fun _ => True) k w := fun l J Jx W hW _ _ hY h0 => by
  have := back1_in F n h7 hro hn l Bs b k cap hk (fun ys W => ∃ zs : List (Fin k × Value), zs.map (fun x => (x.1.val, x.2)) = ys ∧ J zs W) (fun ys W => ∃ zs : List (Fin k × Value), zs.map (fun x => (x.1.val, x.2)) = ys ∧ Jx zs W) (fun pre x W hJ hlen hx => ?_) W (hR.below hW hBs hb) ⟨[], rfl, h0⟩
  · refine this.mono ?_
    rintro e W' ⟨he, ⟨ys, hys, zs, rfl, hJ⟩ | ⟨pre, _, zs, rfl, hJ⟩⟩
    · exact ⟨he, .inl ⟨zs, by rw [← hys]; simp, hJ⟩⟩
    · exact ⟨he, .inr ⟨zs, trivial, hJ⟩⟩
  · obtain ⟨zs, rfl, hJ⟩ := hJ
    obtain ⟨fn, tmps, assign, body, hy, hR1⟩ := hY zs (⟨x.1, hx⟩, x.2) W hJ (by simpa using hlen)
    refine ⟨fn, tmps, assign, body, hy, hR1.mono ?_⟩
    rintro e W' (⟨rfl, hJ', hk'⟩ | ⟨rfl, hJx'⟩)
    · exact .inl ⟨rfl, ⟨_, by simp, hJ'⟩, hk'⟩
    · exact .inr ⟨rfl, ⟨_, by simp, hJx'⟩⟩

/-- One round: a place is written. -/
def putStep (t : List Value × Int) (i : Nat) : List Value × Int := (t.1.set i (.int .u8 (t.2 % 256)), t.2 / 256)

theorem mk_run (k : Nat) (hk : k ≤ 8) (w : World) : (Instr.makeSlice 25 (.int .i64 (k : Int)) (.int .i64 (k : Int))).run Try.prog w = .ok (.slice (some ⟨w.heap.size, 0, none⟩) k k) (w.alloc (.cells (Array.replicate k (.int .u8 0)) 5)) := by
  have hi : (Try.prog.info? 5).map (fun i => (i.zero, i.size, i.bytes)) = some (some (.int .u8 0), 1, 1) := by kernel_rfl
  cases h : Try.prog.info? 5 with
  | none => rw [h] at hi; cases hi
  | some i =>
    rw [h] at hi
    simp only [Option.map_some, Option.some.injEq, Prod.mk.injEq] at hi
    obtain ⟨h2, h3, h4⟩ := hi
    have := run_makeSlice (P := Try.prog) (w := w) 25 5 i _ Try.underlying25 h h2 .i64 .i64 (k : Int) (k : Int) (by omega) (Int.le_refl _) (by rw [h3]; simp; omega) (by rw [h4]; omega) (by omega)
    simp only [Int.toNat_natCast] at this
    rw [this]
    have e : madeCells (Value.int .u8 0).cells (k * i.size) = Array.replicate k (.int .u8 0) := by
      rw [h3, Nat.mul_one]
      apply Array.ext
      · simp [madeCells]
      · intro j hj1 hj2
        simp [madeCells, Value.cells, Nat.mod_one]
    rw [e]

theorem heap_own {W W' : World} {row : Option Nat} {b : Nat} {vs : Array Value} {ty : TypeId} {fz : Nat × Nat} (h : W.heap[b]? = some (.cells vs ty fz)) (hg : W.grownBy W' row)
    (hr : ∀ r, row = some r → ∃ o : Obj, W.heap[r]? = some o ∧ o.isCells = false) : W'.heap[b]? = some (.cells vs ty fz) := by
  have hlt : b < W.heap.size := (Array.getElem?_eq_some_iff.1 h).1
  refine (hg.block b hlt (fun e => ?_)).trans h
  obtain ⟨o, ho, hc⟩ := hr b e.symm
  rw [h] at ho
  cases ho
  simp [Obj.isCells] at hc
theorem heap_set {W : World} {b o : Nat} {vs : Array Value} {ty : TypeId} {fz : Nat × Nat} (h : W.heap[b]? = some (.cells vs ty fz)) (v : Value) : (W.setCell ⟨b, o, none⟩ v).heap[b]? = some (.cells (vs.setIfInBounds o v) ty fz) := by
  simp [World.setCell, Array.getElem?_modify, h]

/-- What a round finds. -/
structure PutI (w : World) (k : Nat) (x : Int) (pre : List (Fin k × Value)) (W : World) : Prop where
  row : W.heap[w.heap.size]? = some (.cells (pre.foldl (fun t y => putStep t y.1.val) (List.replicate k (.int .u8 0), IntKind.u64.wrap x)).1.toArray 5 (0, 0))
  out : W.heap[w.heap.size + 1]? = some (.cells #[.slice (some ⟨w.heap.size, 0, none⟩) k k] 25 (0, 0))
  u : W.heap[w.heap.size + 1 + 1]? = some (.cells #[.int .u64 (pre.foldl (fun t y => putStep t y.1.val) (List.replicate k (.int .u8 0), IntKind.u64.wrap x)).2] 143 (0, 0))
  box : W.heap[w.heap.size + 1 + 1 + 1]? = some (.cells #[.slice (some ⟨w.heap.size, 0, none⟩) k k] 25 (0, 0))
  bel : Below w.heap.size w W

theorem put_len {k : Nat} : ∀ (pre : List (Fin k × Value)) (t : List Value × Int), (pre.foldl (fun t y => putStep t y.1.val) t).1.length = t.1.length := by
  intro pre
  induction pre with
  | nil => intro t; rfl
  | cons y pre ih => intro t; rw [List.foldl_cons, ih]; simp [putStep]

set_option maxRecDepth 100000 in
set_option maxHeartbeats 4000000 in
theorem put_in (F : Fence) (n : Nat) (h3 : F.fn 57) (h5 : F.fn 101) (h7 : F.fn 132) (hro : F.round = none) (hn : 3 ≤ n) (x : Int) (k : Nat) (hk : k ≤ 8) (w : World) :
    CallsIn F n Try.prog 57 #[.int .i64 x, .int .i64 (k : Int)] w fun e W' => e = .returned (.slice (some ⟨w.heap.size, 0, none⟩) k k) ∧ Below w.heap.size w W' ∧
      ∃ pre : List (Fin k × Value), pre.map (fun x => x.1.val) = (List.range k).map (fun m => k - 1 - m) ∧
        W'.heap[w.heap.size]? = some (.cells (pre.foldl (fun t y => putStep t y.1.val) (List.replicate k (.int .u8 0), IntKind.u64.wrap x)).1.toArray 5 (0, 0)) := by
  have h1 : 1 ≤ n := by omega
  have g1 : ¬ ((0 : Int) > (k : Int)) := by omega
  have g2 : ¬ ((8 : Int) < (k : Int)) := by omega
  have hmk := mk_run k hk
  refine callsIn_of_wp_marks Try.func57 rfl h3 ?_ hro
  simp only [Try.ntmps57, List.size_toArray, List.length_cons, List.length_nil, Nat.reduceAdd, Nat.reduceSub, Array.replicate_succ, Array.replicate_zero, List.push_toArray, List.append_toArray, List.nil_append, List.cons_append]
  gi_wp2_with (gi_at_call 101; refine (back_in F (n - 1) h5 hro _ _ _ _).mono ?_; rintro e w' ⟨rfl, rfl⟩)
  have hI0 : PutI w k x [] ((((w.alloc (.cells (Array.replicate k (.int .u8 0)) 5)).alloc (.cells #[.slice (some ⟨w.heap.size, 0, none⟩) k k] 25)).alloc (.cells #[.int .u64 (IntKind.u64.wrap x)] 143)).alloc (.cells #[.slice (some ⟨w.heap.size, 0, none⟩) k k] 25)) := by
    have a0 : ∀ (v : World) (o : Obj) (b : Nat), b < v.heap.size → (v.alloc o).heap[b]? = v.heap[b]? := fun v o b hb => Below.heap_alloc v o b hb
    have a1 : ∀ (v : World) (o : Obj), (v.alloc o).heap[v.heap.size]? = some o := fun v o => World.alloc_heap_new v o
    refine ⟨?_, ?_, ?_, ?_, ?_⟩
    · rw [a0 _ _ _ (by simp; omega), a0 _ _ _ (by simp; omega), a0 _ _ _ (by simp), a1]; simp
    · rw [a0 _ _ _ (by simp), a0 _ _ _ (by simp)]
      have := a1 (w.alloc (.cells (Array.replicate k (.int .u8 0)) 5)) (.cells #[.slice (some ⟨w.heap.size, 0, none⟩) k k] 25)
      rwa [World.size_alloc] at this
    · rw [a0 _ _ _ (by simp)]
      have := a1 ((w.alloc (.cells (Array.replicate k (.int .u8 0)) 5)).alloc (.cells #[.slice (some ⟨w.heap.size, 0, none⟩) k k] 25)) (.cells #[.int .u64 (IntKind.u64.wrap x)] 143)
      rwa [World.size_alloc, World.size_alloc] at this
    · have := a1 (((w.alloc (.cells (Array.replicate k (.int .u8 0)) 5)).alloc (.cells #[.slice (some ⟨w.heap.size, 0, none⟩) k k] 25)).alloc (.cells #[.int .u64 (IntKind.u64.wrap x)] 143)) (.cells #[.slice (some ⟨w.heap.size, 0, none⟩) k k] 25)
      rwa [World.size_alloc, World.size_alloc, World.size_alloc] at this
    · exact ((((Below.refl _ w).alloc (Nat.le_refl _) _).alloc (by simp) _).alloc (by simp; omega) _).alloc (by simp; omega) _
  generalize hW0 : ((((w.alloc (.cells (Array.replicate k (.int .u8 0)) 5)).alloc (.cells #[.slice (some ⟨w.heap.size, 0, none⟩) k k] 25)).alloc (.cells #[.int .u64 (IntKind.u64.wrap x)] 143)).alloc (.cells #[.slice (some ⟨w.heap.size, 0, none⟩) k k] 25)) = W0 at hI0 ⊢
  have hsz : W0.heap.size = w.heap.size + 4 := by rw [← hW0]; simp
  have hRd : ∀ pre W, PutI w k x pre W → Rd (w.heap.size + 1 + 1 + 1) w.heap.size k k W := by
    intro pre W hP
    refine ⟨by simp [World.cell?, hP.box], fun j hj => ?_⟩
    have hrow := hP.row
    have hu8 : ∀ (pre : List (Fin k × Value)) (t : List Value × Int), (∀ v ∈ t.1, ∃ z, v = .int .u8 z) → ∀ v ∈ (pre.foldl (fun t y => putStep t y.1.val) t).1, ∃ z, v = .int .u8 z := by
      intro pre
      induction pre with
      | nil => intro t h; exact h
      | cons y pre ih =>
        intro t h
        rw [List.foldl_cons]
        refine ih _ fun v hv => ?_
        rcases List.mem_or_eq_of_mem_set hv with h1 | h1
        · exact h v h1
        · exact ⟨_, h1⟩
    have hl := put_len (k := k) pre (List.replicate k (.int .u8 0), IntKind.u64.wrap x)
    rw [List.length_replicate] at hl
    generalize hT : pre.foldl (fun t y => putStep t y.1.val) (List.replicate k (.int .u8 0), IntKind.u64.wrap x) = T at hrow hl
    have h8 : ∀ v ∈ T.1, ∃ z, v = .int .u8 z := by
      rw [← hT]
      exact hu8 pre _ (fun v hv => ⟨0, (List.mem_replicate.1 hv).2⟩)
    obtain ⟨z, hz⟩ := h8 (T.1[j]'(by omega)) (by simp)
    exact ⟨z, by simp [World.cell?, hrow, ← hz, hl, hj]⟩
  refine wpIn_rangeFunc_ownF hro h1 (gf := 132) (lb := #[.pointer (some ⟨w.heap.size + 1 + 1 + 1, 0, none⟩)]) rfl h7 (enters_of Try.func132 (by kernel_rfl) rfl)
    (back_stops F (n - 1) h7 hro (by omega) (w.heap.size + 1 + 1 + 1) w.heap.size k k (by omega) W0 (by omega) (by omega) (hRd _ _ hI0))
    (fun h g r => g (h r)) (fun W l o o' hl _ _ _ r => r.putObj o' (by omega) (by omega)) (Below.refl _ _) (fun _ => rfl)
    (PutI w k x) (fun _ _ _ => False)
    (fun s A B row hs hg hr => ?own)
    (fun _ _ _ _ _ hs _ _ => hs)
    hI0
    (fun y => { tmps := #[.int .i64 x, .int .i64 (k : Int), undef, undef, .slice none 0 0, .pointer (some ⟨w.heap.size + 1, 0, none⟩), .pointer (some ⟨w.heap.size + 1 + 1, 0, none⟩), .int .i64 (y.1.val : Int), .int .i64 (k : Int),
      .int .i64 (k : Int), .int .i64 (k : Int), .slice (some ⟨w.heap.size, 0, none⟩) k k, .int .i64 x, .int .u64 (IntKind.u64.wrap x), .slice (some ⟨w.heap.size, 0, none⟩) k k,
      .func (.func 132) #[] #[.pointer (some ⟨w.heap.size + 1 + 1 + 1, 0, none⟩)], .int .i64 (y.1.val : Int), y.2, undef, undef, undef, undef, undef, undef, undef, undef], defers := [] }) ?assign ?body ?done ?stop
  case own =>
    have hr' : ∀ r, row = some r → ∃ o : Obj, A.heap[r]? = some o ∧ o.isCells = false := fun r e => (hr r e).2
    exact ⟨heap_own hs.row hg hr', heap_own hs.out hg hr', heap_own hs.u hg hr', heap_own hs.box hg hr', hs.bel.grown hg hs.bel.size (fun j e => by have := (hr j e).1; omega)⟩
  case assign =>
    intro l y W K hK
    gi_wp2
    exact hK
  case body =>
    rintro l pre y W hP _
    have hrow := hP.row
    have hout := hP.out
    have hu := hP.u
    have hylt := y.1.isLt
    generalize hT : pre.foldl (fun t y => putStep t y.1.val) (List.replicate k (.int .u8 0), IntKind.u64.wrap x) = T at hrow hu
    have c1 : W.cell? ⟨w.heap.size + 1, 0, none⟩ = some (.slice (some ⟨w.heap.size, 0, none⟩) k k) := by simp [World.cell?, hout]
    have c2 : W.cell? ⟨w.heap.size + 1 + 1, 0, none⟩ = some (.int .u64 T.2) := by simp [World.cell?, hu]
    have hTl : T.1.length = k := by rw [← hT, put_len]; simp
    have c3 : W.cell? ⟨w.heap.size, y.1.val, none⟩ = some (T.1[y.1.val]'(by omega)) := by simp [World.cell?, hrow, hTl]
    have f1 : W.frozen? ⟨w.heap.size, y.1.val, none⟩ = false := by simp [World.frozen?, hrow]
    have f2 : W.frozen? ⟨w.heap.size + 1 + 1, 0, none⟩ = false := by simp [World.frozen?, hu]
    gi_wp2
    have hstep : (pre ++ [y]).foldl (fun t y => putStep t y.1.val) (List.replicate k (.int .u8 0), IntKind.u64.wrap x) = putStep T y.1.val := by rw [List.foldl_append, hT]; rfl
    have hP' : PutI w k x (pre ++ [y]) ((W.setCell ⟨w.heap.size, y.1.val, none⟩ (.int .u8 (T.2 % 256))).setCell ⟨w.heap.size + 1 + 1, 0, none⟩ (.int .u64 (T.2 / 256))) := by
      refine ⟨?_, ?_, ?_, ?_, ?_⟩
      · rw [hstep, Below.heap_setCell _ _ _ _ (by dsimp only; omega), heap_set hrow]
        simp [putStep]
      · rw [Below.heap_setCell _ _ _ _ (by dsimp only; omega), Below.heap_setCell _ _ _ _ (by dsimp only; omega)]; exact hout
      · rw [hstep, heap_set (by rw [Below.heap_setCell _ _ _ _ (by dsimp only; omega)]; exact hu)]
        simp [putStep]
      · rw [Below.heap_setCell _ _ _ _ (by dsimp only; omega), Below.heap_setCell _ _ _ _ (by dsimp only; omega)]; exact hP.box
      · exact (hP.bel.setCell (p := ⟨w.heap.size, y.1.val, none⟩) (Nat.le_refl _) _).setCell (p := ⟨w.heap.size + 1 + 1, 0, none⟩) (by simp; omega) _
    exact ⟨(KeepsOthers.setCell _ _ _).trans (KeepsOthers.setCell _ _ _), fun _ => hRd _ _ hP', hP'⟩
  case done =>
    rintro D ys W hD hys hP hK
    have hout := hP.out
    have c1 : W.cell? ⟨w.heap.size + 1, 0, none⟩ = some (.slice (some ⟨w.heap.size, 0, none⟩) k k) := by simp [World.cell?, hout]
    gi_wp2
    refine ⟨by simp, .inl ⟨_, _, rfl, run_takeDeferred hK, ?_⟩⟩
    refine ⟨_, results_tmp rfl _ _ _, rfl, hP.bel.trans (belowK_b (w := w) (Nat.le_refl _) W D _ _ (by omega) hK rfl rfl), ys, hys, ?_⟩
    rw [World.putObj_heap_other (by omega)]
    exact hP.row
  case stop =>
    rintro D c pre W _ _ h _
    exact h.elim

/-- What the rounds have written: the number's octets. -/
theorem put_fold (k : Nat) (U : Int) (hU : 0 ≤ U) : ∀ m, m ≤ k → ∃ T : List Value × Int, ((List.range m).map (fun j => k - 1 - j)).foldl putStep (List.replicate k (.int .u8 0), U) = T ∧ T.2 = U / 256 ^ m ∧ T.1.length = k ∧
    ∀ i, i < k → k - m ≤ i → T.1[i]? = some (.int .u8 (U / 256 ^ (k - 1 - i) % 256)) := by
  intro m
  induction m with
  | zero => exact fun _ => ⟨_, rfl, by simp, by simp, fun i h1 h2 => by omega⟩
  | succ m ih =>
    intro hm
    obtain ⟨T, h1, h2, h3, h4⟩ := ih (by omega)
    rw [List.range_succ, List.map_append, List.foldl_append, h1]
    refine ⟨_, rfl, ?_, ?_, fun i hi hle => ?_⟩
    · simp only [List.map_cons, List.map_nil, List.foldl_cons, List.foldl_nil, putStep, h2]
      rw [Int.ediv_ediv_of_nonneg (Int.le_of_lt (Int.pow_pos (by decide))), Int.pow_succ]
    · simp [putStep, h3]
    · simp only [List.map_cons, List.map_nil, List.foldl_cons, List.foldl_nil, putStep]
      rw [List.getElem?_set]
      by_cases e : k - 1 - m = i
      · rw [if_pos e, if_pos (by omega), h2]
        have : m = k - 1 - i := by omega
        rw [this]
      · rw [if_neg e]
        exact h4 i hi (by omega)

theorem put_sound : SoundC Try.prog 57 putC := by
  refine ⟨⟨_, Try.func57, rfl, rfl⟩, fun args objs r hr => ?_⟩
  unfold putC at hr
  split at hr
  · rename_i n size
    split at hr
    · rename_i hs
      cases hr
      refine ⟨fun x hx => ?_, fun Ext G w vals M hl hx => ?_⟩
      · simp at hx
      · obtain ⟨k, hk⟩ : ∃ k : Nat, size = (k : Int) := ⟨size.toNat, by omega⟩
        subst hk
        have hk8 : k ≤ 8 := by omega
        match vals, hl with
        | [v1, v2], _ =>
        have e1 : v1 = .int .i64 n := by
          have := hx 0 _ v1 rfl rfl
          cases this with
          | c _ _ h => cases h; rfl
        have e2 : v2 = .int .i64 (k : Int) := by
          have := hx 1 _ v2 rfl rfl
          cases this with
          | c _ _ h => cases h; rfl
        subst e1 e2
        refine Calls.mono (callsIn_wide.1 (put_in Fence.wide 3 trivial trivial trivial rfl (by omega) n k hk8 w)) ?_
        rintro e W' ⟨rfl, bel, pre, hpre, hrow⟩
        rw [← List.foldl_map (f := fun y : Fin k × Value => y.1.val) (g := putStep), hpre] at hrow
        have hU : 0 ≤ IntKind.u64.wrap n := wrap_u64_nonneg n
        obtain ⟨T, h1, h2, h3, h4⟩ := put_fold k (IntKind.u64.wrap n) hU k (Nat.le_refl _)
        rw [h1] at hrow
        have hlen : (putB n (k : Int)).length = k := by rw [putB_length]; omega
        have hv : ∀ (j : Nat) (r : List PC) (i : Nat) (c : PC), (bytes (putB n (k : Int)))[j]? = some r → r[i]? = some c → ∃ v, T.1.toArray[j * 1 + i]? = some v ∧ VR G.K c v := by
          intro j r i c hj hi
          simp only [bytes, List.getElem?_map, Option.map_eq_some_iff] at hj
          obtain ⟨b, hb, rfl⟩ := hj
          have hjk : j < k := by rw [← hlen]; exact (List.getElem?_eq_some_iff.1 hb).1
          have hi0 : i = 0 := by
            have := (List.getElem?_eq_some_iff.1 hi).1
            simpa using this
          subst hi0
          simp at hi
          subst hi
          refine ⟨.int .u8 (IntKind.u64.wrap n / 256 ^ (k - 1 - j) % 256), ?_, ?_⟩
          · have := h4 j hjk (by omega)
            simpa using this
          · have hm : (min (max (k : Int) 0) 8).toNat = k := by omega
            have : b = UInt8.ofNat ((IntKind.u64.wrap n).toNat / 256 ^ (k - 1 - j) % 256) := by
              unfold putB at hb
              rw [hm, List.getElem?_map, List.getElem?_range hjk] at hb
              simpa using hb.symm
            rw [this, UInt8.toNat_ofNat_of_lt' (Nat.mod_lt _ (by decide))]
            have e : ((( IntKind.u64.wrap n).toNat / 256 ^ (k - 1 - j) % 256 : Nat) : Int) = IntKind.u64.wrap n / 256 ^ (k - 1 - j) % 256 := by
              rw [Int.natCast_emod, Int.natCast_ediv, Int.natCast_pow, Int.toNat_of_nonneg hU]
              rfl
            rw [e]
            exact .int _ _
        obtain ⟨G', g1, g2, g3⟩ := M.newRow (w' := W') (n := outName 0) rfl (z := 1) (cap := k) (rows := bytes (putB n (k : Int))) (by decide) (bytes_rows _) (by rw [bytes_length, hlen]; exact Nat.le_refl _) (by simp [h3]) hrow hv (fun b hb => bel.block b hb) bel.os bel.tape bel.output bel.size
        · rw [bytes_length, hlen] at g2
          refine ⟨G', _, rfl, g1, ?_, g2⟩
          refine g3.congr fun i => ?_
          simp only [exitMem, entryMem, List.nil_append, resAt, look, mset, bytes_length]
    · cases hr
  · cases hr


variable {Γ : FuncId → Contract}

end Go.Proofs.Ytldehcnaepgamaa.AM
