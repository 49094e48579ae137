/-
  Q7: Ty Pk1 Pk2 Put Pk3.
-/
import Derived.Test.YtenmlgalcjkdbaaQ6
import Derived.Test.YtenmlgalcjkdbaaProg
import Derived.KernelRfl
import Derived.RangeFuncNested
import Derived.RangeFuncBound
import Derived.RangeFuncCalls
import Derived.RangeFuncLeaves
import Derived.RangeFuncBox
import Derived.Shelf.Abstract
import Derived.Shelf.RegionOpen
import Derived.WalkKit
import Derived.OwnWalkIn
import Derived.TacticsInMore
import Derived.LoopNIn
import Derived.LoopIn
set_option linter.defProp false
set_option linter.unusedVariables false
set_option linter.unusedSimpArgs false
namespace Go.Proofs.Ytenmlgalcjkdbaa.AM
open Go

theorem und_3 : (Program.underlying Try.prog 3).isSome = true := by kernel_rfl
theorem agg_3 : tyAgg Try.prog 3 = some false := by kernel_rfl
theorem sz_3 : tySize Try.prog 3 = some 1 := by kernel_rfl
theorem by_3 : tyBytes Try.prog 3 = some 8 := by kernel_rfl
theorem zero_3 : tyZero Try.prog 3 = some [.c (.int .i64 0)] := by kernel_rfl
theorem elem_3 : tyElem Try.prog 3 = none := by kernel_rfl
theorem arr_3 : tyArr Try.prog 3 = none := by kernel_rfl
theorem int_3 : tyInt Try.prog 3 = some .i64 := by kernel_rfl
theorem str_3 : tyStr Try.prog 3 = false := by kernel_rfl
theorem bool_3 : tyBool Try.prog 3 = false := by kernel_rfl
theorem ptr_3 : tyPtr Try.prog 3 = false := by kernel_rfl
theorem zag_3 : tyZag Try.prog 3 = false := by kernel_rfl
theorem map_3 : tyMap Try.prog 3 = none := by kernel_rfl
theorem pl_3 : tyPlaces Try.prog 3 = none := by kernel_rfl
def ty_3 := And.intro und_3 <| And.intro agg_3 <| And.intro sz_3 <| And.intro by_3 <| And.intro zero_3 <| And.intro elem_3 <| And.intro arr_3 <| And.intro int_3 <| And.intro str_3 <| And.intro bool_3 <| And.intro ptr_3 <| And.intro zag_3 <| And.intro map_3 <| pl_3
theorem und_4 : (Program.underlying Try.prog 4).isSome = true := by kernel_rfl
theorem agg_4 : tyAgg Try.prog 4 = some false := by kernel_rfl
theorem sz_4 : tySize Try.prog 4 = some 1 := by kernel_rfl
theorem by_4 : tyBytes Try.prog 4 = some 1 := by kernel_rfl
theorem zero_4 : tyZero Try.prog 4 = some [.c (.bool false)] := by kernel_rfl
theorem elem_4 : tyElem Try.prog 4 = none := by kernel_rfl
theorem arr_4 : tyArr Try.prog 4 = none := by kernel_rfl
theorem int_4 : tyInt Try.prog 4 = none := by kernel_rfl
theorem str_4 : tyStr Try.prog 4 = false := by kernel_rfl
theorem bool_4 : tyBool Try.prog 4 = true := by kernel_rfl
theorem ptr_4 : tyPtr Try.prog 4 = false := by kernel_rfl
theorem zag_4 : tyZag Try.prog 4 = false := by kernel_rfl
theorem map_4 : tyMap Try.prog 4 = none := by kernel_rfl
theorem pl_4 : tyPlaces Try.prog 4 = none := by kernel_rfl
def ty_4 := And.intro und_4 <| And.intro agg_4 <| And.intro sz_4 <| And.intro by_4 <| And.intro zero_4 <| And.intro elem_4 <| And.intro arr_4 <| And.intro int_4 <| And.intro str_4 <| And.intro bool_4 <| And.intro ptr_4 <| And.intro zag_4 <| And.intro map_4 <| pl_4
theorem und_5 : (Program.underlying Try.prog 5).isSome = true := by kernel_rfl
theorem agg_5 : tyAgg Try.prog 5 = some false := by kernel_rfl
theorem sz_5 : tySize Try.prog 5 = some 1 := by kernel_rfl
theorem by_5 : tyBytes Try.prog 5 = some 1 := by kernel_rfl
theorem zero_5 : tyZero Try.prog 5 = some [.c (.int .u8 0)] := by kernel_rfl
theorem elem_5 : tyElem Try.prog 5 = none := by kernel_rfl
theorem arr_5 : tyArr Try.prog 5 = none := by kernel_rfl
theorem int_5 : tyInt Try.prog 5 = some .u8 := by kernel_rfl
theorem str_5 : tyStr Try.prog 5 = false := by kernel_rfl
theorem bool_5 : tyBool Try.prog 5 = false := by kernel_rfl
theorem ptr_5 : tyPtr Try.prog 5 = false := by kernel_rfl
theorem zag_5 : tyZag Try.prog 5 = false := by kernel_rfl
theorem map_5 : tyMap Try.prog 5 = none := by kernel_rfl
theorem pl_5 : tyPlaces Try.prog 5 = none := by kernel_rfl
def ty_5 := And.intro und_5 <| And.intro agg_5 <| And.intro sz_5 <| And.intro by_5 <| And.intro zero_5 <| And.intro elem_5 <| And.intro arr_5 <| And.intro int_5 <| And.intro str_5 <| And.intro bool_5 <| And.intro ptr_5 <| And.intro zag_5 <| And.intro map_5 <| pl_5
theorem und_9 : (Program.underlying Try.prog 9).isSome = true := by kernel_rfl
theorem agg_9 : tyAgg Try.prog 9 = some false := by kernel_rfl
theorem sz_9 : tySize Try.prog 9 = some 1 := by kernel_rfl
theorem by_9 : tyBytes Try.prog 9 = some 16 := by kernel_rfl
theorem zero_9 : tyZero Try.prog 9 = some [.c (.str [])] := by kernel_rfl
theorem elem_9 : tyElem Try.prog 9 = none := by kernel_rfl
theorem arr_9 : tyArr Try.prog 9 = none := by kernel_rfl
theorem int_9 : tyInt Try.prog 9 = none := by kernel_rfl
theorem str_9 : tyStr Try.prog 9 = true := by kernel_rfl
theorem bool_9 : tyBool Try.prog 9 = false := by kernel_rfl
theorem ptr_9 : tyPtr Try.prog 9 = false := by kernel_rfl
theorem zag_9 : tyZag Try.prog 9 = false := by kernel_rfl
theorem map_9 : tyMap Try.prog 9 = none := by kernel_rfl
theorem pl_9 : tyPlaces Try.prog 9 = none := by kernel_rfl
def ty_9 := And.intro und_9 <| And.intro agg_9 <| And.intro sz_9 <| And.intro by_9 <| And.intro zero_9 <| And.intro elem_9 <| And.intro arr_9 <| And.intro int_9 <| And.intro str_9 <| And.intro bool_9 <| And.intro ptr_9 <| And.intro zag_9 <| And.intro map_9 <| pl_9
theorem und_22 : (Program.underlying Try.prog 22).isSome = true := by kernel_rfl
theorem agg_22 : tyAgg Try.prog 22 = some false := by kernel_rfl
theorem sz_22 : tySize Try.prog 22 = some 1 := by kernel_rfl
theorem by_22 : tyBytes Try.prog 22 = some 24 := by kernel_rfl
theorem zero_22 : tyZero Try.prog 22 = some [.nilsl] := by kernel_rfl
theorem elem_22 : tyElem Try.prog 22 = some 122 := by kernel_rfl
theorem arr_22 : tyArr Try.prog 22 = none := by kernel_rfl
theorem int_22 : tyInt Try.prog 22 = none := by kernel_rfl
theorem str_22 : tyStr Try.prog 22 = false := by kernel_rfl
theorem bool_22 : tyBool Try.prog 22 = false := by kernel_rfl
theorem ptr_22 : tyPtr Try.prog 22 = false := by kernel_rfl
theorem zag_22 : tyZag Try.prog 22 = false := by kernel_rfl
theorem map_22 : tyMap Try.prog 22 = none := by kernel_rfl
theorem pl_22 : tyPlaces Try.prog 22 = none := by kernel_rfl
def ty_22 := And.intro und_22 <| And.intro agg_22 <| And.intro sz_22 <| And.intro by_22 <| And.intro zero_22 <| And.intro elem_22 <| And.intro arr_22 <| And.intro int_22 <| And.intro str_22 <| And.intro bool_22 <| And.intro ptr_22 <| And.intro zag_22 <| And.intro map_22 <| pl_22
theorem und_24 : (Program.underlying Try.prog 24).isSome = true := by kernel_rfl
theorem agg_24 : tyAgg Try.prog 24 = some true := by kernel_rfl
theorem sz_24 : tySize Try.prog 24 = some 4 := by kernel_rfl
theorem by_24 : tyBytes Try.prog 24 = some 56 := by kernel_rfl
theorem zero_24 : tyZero Try.prog 24 = some [.c (.int .i64 0), .c (.int .i64 0), .c (.str []), .nilsl] := by kernel_rfl
theorem elem_24 : tyElem Try.prog 24 = none := by kernel_rfl
theorem arr_24 : tyArr Try.prog 24 = none := by kernel_rfl
theorem int_24 : tyInt Try.prog 24 = none := by kernel_rfl
theorem str_24 : tyStr Try.prog 24 = false := by kernel_rfl
theorem bool_24 : tyBool Try.prog 24 = false := by kernel_rfl
theorem ptr_24 : tyPtr Try.prog 24 = false := by kernel_rfl
theorem zag_24 : tyZag Try.prog 24 = true := by kernel_rfl
theorem map_24 : tyMap Try.prog 24 = none := by kernel_rfl
theorem fd_24_0 : tyField Try.prog 24 0 = some (0, 3, 1) := by kernel_rfl
theorem fd_24_1 : tyField Try.prog 24 1 = some (1, 3, 1) := by kernel_rfl
theorem fd_24_2 : tyField Try.prog 24 2 = some (2, 9, 1) := by kernel_rfl
theorem fd_24_3 : tyField Try.prog 24 3 = some (3, 22, 1) := by kernel_rfl
theorem pl_24 : tyPlaces Try.prog 24 = some [(0, 1), (1, 1), (2, 1), (3, 1)] := by kernel_rfl
def ty_24 := And.intro und_24 <| And.intro agg_24 <| And.intro sz_24 <| And.intro by_24 <| And.intro zero_24 <| And.intro elem_24 <| And.intro arr_24 <| And.intro int_24 <| And.intro str_24 <| And.intro bool_24 <| And.intro ptr_24 <| And.intro zag_24 <| And.intro map_24 <| And.intro fd_24_0 <| And.intro fd_24_1 <| And.intro fd_24_2 <| And.intro fd_24_3 <| pl_24
theorem und_25 : (Program.underlying Try.prog 25).isSome = true := by kernel_rfl
theorem agg_25 : tyAgg Try.prog 25 = some false := by kernel_rfl
theorem sz_25 : tySize Try.prog 25 = some 1 := by kernel_rfl
theorem by_25 : tyBytes Try.prog 25 = some 24 := by kernel_rfl
theorem zero_25 : tyZero Try.prog 25 = some [.nilsl] := by kernel_rfl
theorem elem_25 : tyElem Try.prog 25 = some 47 := by kernel_rfl
theorem arr_25 : tyArr Try.prog 25 = none := by kernel_rfl
theorem int_25 : tyInt Try.prog 25 = none := by kernel_rfl
theorem str_25 : tyStr Try.prog 25 = false := by kernel_rfl
theorem bool_25 : tyBool Try.prog 25 = false := by kernel_rfl
theorem ptr_25 : tyPtr Try.prog 25 = false := by kernel_rfl
theorem zag_25 : tyZag Try.prog 25 = false := by kernel_rfl
theorem map_25 : tyMap Try.prog 25 = none := by kernel_rfl
theorem pl_25 : tyPlaces Try.prog 25 = none := by kernel_rfl
def ty_25 := And.intro und_25 <| And.intro agg_25 <| And.intro sz_25 <| And.intro by_25 <| And.intro zero_25 <| And.intro elem_25 <| And.intro arr_25 <| And.intro int_25 <| And.intro str_25 <| And.intro bool_25 <| And.intro ptr_25 <| And.intro zag_25 <| And.intro map_25 <| pl_25
theorem und_27 : (Program.underlying Try.prog 27).isSome = true := by kernel_rfl
theorem agg_27 : tyAgg Try.prog 27 = some true := by kernel_rfl
theorem sz_27 : tySize Try.prog 27 = some 9 := by kernel_rfl
theorem by_27 : tyBytes Try.prog 27 = some 128 := by kernel_rfl
theorem zero_27 : tyZero Try.prog 27 = some [.c (.int .i64 0), .c (.int .i64 0), .c (.str []), .c (.int .i64 0), .c (.int .i64 0), .c (.str []), .nilsl, .nilsl, .c (.str [])] := by kernel_rfl
theorem elem_27 : tyElem Try.prog 27 = none := by kernel_rfl
theorem arr_27 : tyArr Try.prog 27 = none := by kernel_rfl
theorem int_27 : tyInt Try.prog 27 = none := by kernel_rfl
theorem str_27 : tyStr Try.prog 27 = false := by kernel_rfl
theorem bool_27 : tyBool Try.prog 27 = false := by kernel_rfl
theorem ptr_27 : tyPtr Try.prog 27 = false := by kernel_rfl
theorem zag_27 : tyZag Try.prog 27 = true := by kernel_rfl
theorem map_27 : tyMap Try.prog 27 = none := by kernel_rfl
theorem fd_27_0 : tyField Try.prog 27 0 = some (0, 3, 1) := by kernel_rfl
theorem fd_27_1 : tyField Try.prog 27 1 = some (1, 3, 1) := by kernel_rfl
theorem fd_27_2 : tyField Try.prog 27 2 = some (2, 9, 1) := by kernel_rfl
theorem fd_27_3 : tyField Try.prog 27 3 = some (3, 24, 4) := by kernel_rfl
theorem fd_27_4 : tyField Try.prog 27 4 = some (7, 25, 1) := by kernel_rfl
theorem fd_27_5 : tyField Try.prog 27 5 = some (8, 9, 1) := by kernel_rfl
theorem pl_27 : tyPlaces Try.prog 27 = some [(0, 1), (1, 1), (2, 1), (3, 4), (7, 1), (8, 1)] := by kernel_rfl
def ty_27 := And.intro und_27 <| And.intro agg_27 <| And.intro sz_27 <| And.intro by_27 <| And.intro zero_27 <| And.intro elem_27 <| And.intro arr_27 <| And.intro int_27 <| And.intro str_27 <| And.intro bool_27 <| And.intro ptr_27 <| And.intro zag_27 <| And.intro map_27 <| And.intro fd_27_0 <| And.intro fd_27_1 <| And.intro fd_27_2 <| And.intro fd_27_3 <| And.intro fd_27_4 <| And.intro fd_27_5 <| pl_27
theorem und_32 : (Program.underlying Try.prog 32).isSome = true := by kernel_rfl
theorem agg_32 : tyAgg Try.prog 32 = some false := by kernel_rfl
theorem sz_32 : tySize Try.prog 32 = some 1 := by kernel_rfl
theorem by_32 : tyBytes Try.prog 32 = some 24 := by kernel_rfl
theorem zero_32 : tyZero Try.prog 32 = some [.nilsl] := by kernel_rfl
theorem elem_32 : tyElem Try.prog 32 = some 27 := by kernel_rfl
theorem arr_32 : tyArr Try.prog 32 = none := by kernel_rfl
theorem int_32 : tyInt Try.prog 32 = none := by kernel_rfl
theorem str_32 : tyStr Try.prog 32 = false := by kernel_rfl
theorem bool_32 : tyBool Try.prog 32 = false := by kernel_rfl
theorem ptr_32 : tyPtr Try.prog 32 = false := by kernel_rfl
theorem zag_32 : tyZag Try.prog 32 = false := by kernel_rfl
theorem map_32 : tyMap Try.prog 32 = none := by kernel_rfl
theorem pl_32 : tyPlaces Try.prog 32 = none := by kernel_rfl
def ty_32 := And.intro und_32 <| And.intro agg_32 <| And.intro sz_32 <| And.intro by_32 <| And.intro zero_32 <| And.intro elem_32 <| And.intro arr_32 <| And.intro int_32 <| And.intro str_32 <| And.intro bool_32 <| And.intro ptr_32 <| And.intro zag_32 <| And.intro map_32 <| pl_32
theorem und_33 : (Program.underlying Try.prog 33).isSome = true := by kernel_rfl
theorem agg_33 : tyAgg Try.prog 33 = some false := by kernel_rfl
theorem sz_33 : tySize Try.prog 33 = some 1 := by kernel_rfl
theorem by_33 : tyBytes Try.prog 33 = some 8 := by kernel_rfl
theorem zero_33 : tyZero Try.prog 33 = some [.nilptr] := by kernel_rfl
theorem elem_33 : tyElem Try.prog 33 = none := by kernel_rfl
theorem arr_33 : tyArr Try.prog 33 = none := by kernel_rfl
theorem int_33 : tyInt Try.prog 33 = none := by kernel_rfl
theorem str_33 : tyStr Try.prog 33 = false := by kernel_rfl
theorem bool_33 : tyBool Try.prog 33 = false := by kernel_rfl
theorem ptr_33 : tyPtr Try.prog 33 = true := by kernel_rfl
theorem zag_33 : tyZag Try.prog 33 = false := by kernel_rfl
theorem map_33 : tyMap Try.prog 33 = none := by kernel_rfl
theorem pl_33 : tyPlaces Try.prog 33 = none := by kernel_rfl
def ty_33 := And.intro und_33 <| And.intro agg_33 <| And.intro sz_33 <| And.intro by_33 <| And.intro zero_33 <| And.intro elem_33 <| And.intro arr_33 <| And.intro int_33 <| And.intro str_33 <| And.intro bool_33 <| And.intro ptr_33 <| And.intro zag_33 <| And.intro map_33 <| pl_33
theorem und_47 : (Program.underlying Try.prog 47).isSome = true := by kernel_rfl
theorem agg_47 : tyAgg Try.prog 47 = some true := by kernel_rfl
theorem sz_47 : tySize Try.prog 47 = some 5 := by kernel_rfl
theorem by_47 : tyBytes Try.prog 47 = some 48 := by kernel_rfl
theorem zero_47 : tyZero Try.prog 47 = some [.c (.int .i64 0), .c (.int .i64 0), .c (.int .i64 0), .c (.int .i64 0), .c (.str [])] := by kernel_rfl
theorem elem_47 : tyElem Try.prog 47 = none := by kernel_rfl
theorem arr_47 : tyArr Try.prog 47 = none := by kernel_rfl
theorem int_47 : tyInt Try.prog 47 = none := by kernel_rfl
theorem str_47 : tyStr Try.prog 47 = false := by kernel_rfl
theorem bool_47 : tyBool Try.prog 47 = false := by kernel_rfl
theorem ptr_47 : tyPtr Try.prog 47 = false := by kernel_rfl
theorem zag_47 : tyZag Try.prog 47 = true := by kernel_rfl
theorem map_47 : tyMap Try.prog 47 = none := by kernel_rfl
theorem fd_47_0 : tyField Try.prog 47 0 = some (0, 3, 1) := by kernel_rfl
theorem fd_47_1 : tyField Try.prog 47 1 = some (1, 3, 1) := by kernel_rfl
theorem fd_47_2 : tyField Try.prog 47 2 = some (2, 3, 1) := by kernel_rfl
theorem fd_47_3 : tyField Try.prog 47 3 = some (3, 3, 1) := by kernel_rfl
theorem fd_47_4 : tyField Try.prog 47 4 = some (4, 9, 1) := by kernel_rfl
theorem pl_47 : tyPlaces Try.prog 47 = some [(0, 1), (1, 1), (2, 1), (3, 1), (4, 1)] := by kernel_rfl
def ty_47 := And.intro und_47 <| And.intro agg_47 <| And.intro sz_47 <| And.intro by_47 <| And.intro zero_47 <| And.intro elem_47 <| And.intro arr_47 <| And.intro int_47 <| And.intro str_47 <| And.intro bool_47 <| And.intro ptr_47 <| And.intro zag_47 <| And.intro map_47 <| And.intro fd_47_0 <| And.intro fd_47_1 <| And.intro fd_47_2 <| And.intro fd_47_3 <| And.intro fd_47_4 <| pl_47
theorem und_51 : (Program.underlying Try.prog 51).isSome = true := by kernel_rfl
theorem agg_51 : tyAgg Try.prog 51 = some false := by kernel_rfl
theorem sz_51 : tySize Try.prog 51 = some 1 := by kernel_rfl
theorem by_51 : tyBytes Try.prog 51 = some 8 := by kernel_rfl
theorem zero_51 : tyZero Try.prog 51 = some [.nilmp] := by kernel_rfl
theorem elem_51 : tyElem Try.prog 51 = none := by kernel_rfl
theorem arr_51 : tyArr Try.prog 51 = none := by kernel_rfl
theorem int_51 : tyInt Try.prog 51 = none := by kernel_rfl
theorem str_51 : tyStr Try.prog 51 = false := by kernel_rfl
theorem bool_51 : tyBool Try.prog 51 = false := by kernel_rfl
theorem ptr_51 : tyPtr Try.prog 51 = false := by kernel_rfl
theorem zag_51 : tyZag Try.prog 51 = false := by kernel_rfl
theorem map_51 : tyMap Try.prog 51 = some (9, 27) := by kernel_rfl
theorem pl_51 : tyPlaces Try.prog 51 = none := by kernel_rfl
def ty_51 := And.intro und_51 <| And.intro agg_51 <| And.intro sz_51 <| And.intro by_51 <| And.intro zero_51 <| And.intro elem_51 <| And.intro arr_51 <| And.intro int_51 <| And.intro str_51 <| And.intro bool_51 <| And.intro ptr_51 <| And.intro zag_51 <| And.intro map_51 <| pl_51
theorem und_53 : (Program.underlying Try.prog 53).isSome = true := by kernel_rfl
theorem agg_53 : tyAgg Try.prog 53 = some true := by kernel_rfl
theorem sz_53 : tySize Try.prog 53 = some 1 := by kernel_rfl
theorem by_53 : tyBytes Try.prog 53 = some 8 := by kernel_rfl
theorem zero_53 : tyZero Try.prog 53 = some [.nilmp] := by kernel_rfl
theorem elem_53 : tyElem Try.prog 53 = none := by kernel_rfl
theorem arr_53 : tyArr Try.prog 53 = none := by kernel_rfl
theorem int_53 : tyInt Try.prog 53 = none := by kernel_rfl
theorem str_53 : tyStr Try.prog 53 = false := by kernel_rfl
theorem bool_53 : tyBool Try.prog 53 = false := by kernel_rfl
theorem ptr_53 : tyPtr Try.prog 53 = false := by kernel_rfl
theorem zag_53 : tyZag Try.prog 53 = true := by kernel_rfl
theorem map_53 : tyMap Try.prog 53 = none := by kernel_rfl
theorem fd_53_0 : tyField Try.prog 53 0 = some (0, 51, 1) := by kernel_rfl
theorem pl_53 : tyPlaces Try.prog 53 = some [(0, 1)] := by kernel_rfl
def ty_53 := And.intro und_53 <| And.intro agg_53 <| And.intro sz_53 <| And.intro by_53 <| And.intro zero_53 <| And.intro elem_53 <| And.intro arr_53 <| And.intro int_53 <| And.intro str_53 <| And.intro bool_53 <| And.intro ptr_53 <| And.intro zag_53 <| And.intro map_53 <| And.intro fd_53_0 <| pl_53
theorem und_54 : (Program.underlying Try.prog 54).isSome = true := by kernel_rfl
theorem agg_54 : tyAgg Try.prog 54 = some false := by kernel_rfl
theorem sz_54 : tySize Try.prog 54 = some 1 := by kernel_rfl
theorem by_54 : tyBytes Try.prog 54 = some 24 := by kernel_rfl
theorem zero_54 : tyZero Try.prog 54 = some [.nilsl] := by kernel_rfl
theorem elem_54 : tyElem Try.prog 54 = some 33 := by kernel_rfl
theorem arr_54 : tyArr Try.prog 54 = none := by kernel_rfl
theorem int_54 : tyInt Try.prog 54 = none := by kernel_rfl
theorem str_54 : tyStr Try.prog 54 = false := by kernel_rfl
theorem bool_54 : tyBool Try.prog 54 = false := by kernel_rfl
theorem ptr_54 : tyPtr Try.prog 54 = false := by kernel_rfl
theorem zag_54 : tyZag Try.prog 54 = false := by kernel_rfl
theorem map_54 : tyMap Try.prog 54 = none := by kernel_rfl
theorem pl_54 : tyPlaces Try.prog 54 = none := by kernel_rfl
def ty_54 := And.intro und_54 <| And.intro agg_54 <| And.intro sz_54 <| And.intro by_54 <| And.intro zero_54 <| And.intro elem_54 <| And.intro arr_54 <| And.intro int_54 <| And.intro str_54 <| And.intro bool_54 <| And.intro ptr_54 <| And.intro zag_54 <| And.intro map_54 <| pl_54
theorem und_85 : (Program.underlying Try.prog 85).isSome = true := by kernel_rfl
theorem agg_85 : tyAgg Try.prog 85 = some false := by kernel_rfl
theorem sz_85 : tySize Try.prog 85 = some 1 := by kernel_rfl
theorem by_85 : tyBytes Try.prog 85 = some 8 := by kernel_rfl
theorem zero_85 : tyZero Try.prog 85 = some [.c (.int .i64 0)] := by kernel_rfl
theorem elem_85 : tyElem Try.prog 85 = none := by kernel_rfl
theorem arr_85 : tyArr Try.prog 85 = none := by kernel_rfl
theorem int_85 : tyInt Try.prog 85 = some .i64 := by kernel_rfl
theorem str_85 : tyStr Try.prog 85 = false := by kernel_rfl
theorem bool_85 : tyBool Try.prog 85 = false := by kernel_rfl
theorem ptr_85 : tyPtr Try.prog 85 = false := by kernel_rfl
theorem zag_85 : tyZag Try.prog 85 = false := by kernel_rfl
theorem map_85 : tyMap Try.prog 85 = none := by kernel_rfl
theorem pl_85 : tyPlaces Try.prog 85 = none := by kernel_rfl
def ty_85 := And.intro und_85 <| And.intro agg_85 <| And.intro sz_85 <| And.intro by_85 <| And.intro zero_85 <| And.intro elem_85 <| And.intro arr_85 <| And.intro int_85 <| And.intro str_85 <| And.intro bool_85 <| And.intro ptr_85 <| And.intro zag_85 <| And.intro map_85 <| pl_85
theorem und_88 : (Program.underlying Try.prog 88).isSome = true := by kernel_rfl
theorem agg_88 : tyAgg Try.prog 88 = some false := by kernel_rfl
theorem sz_88 : tySize Try.prog 88 = some 1 := by kernel_rfl
theorem by_88 : tyBytes Try.prog 88 = some 24 := by kernel_rfl
theorem zero_88 : tyZero Try.prog 88 = some [.nilsl] := by kernel_rfl
theorem elem_88 : tyElem Try.prog 88 = some 5 := by kernel_rfl
theorem arr_88 : tyArr Try.prog 88 = none := by kernel_rfl
theorem int_88 : tyInt Try.prog 88 = none := by kernel_rfl
theorem str_88 : tyStr Try.prog 88 = false := by kernel_rfl
theorem bool_88 : tyBool Try.prog 88 = false := by kernel_rfl
theorem ptr_88 : tyPtr Try.prog 88 = false := by kernel_rfl
theorem zag_88 : tyZag Try.prog 88 = false := by kernel_rfl
theorem map_88 : tyMap Try.prog 88 = none := by kernel_rfl
theorem pl_88 : tyPlaces Try.prog 88 = none := by kernel_rfl
def ty_88 := And.intro und_88 <| And.intro agg_88 <| And.intro sz_88 <| And.intro by_88 <| And.intro zero_88 <| And.intro elem_88 <| And.intro arr_88 <| And.intro int_88 <| And.intro str_88 <| And.intro bool_88 <| And.intro ptr_88 <| And.intro zag_88 <| And.intro map_88 <| pl_88
theorem und_111 : (Program.underlying Try.prog 111).isSome = true := by kernel_rfl
theorem agg_111 : tyAgg Try.prog 111 = some false := by kernel_rfl
theorem sz_111 : tySize Try.prog 111 = some 1 := by kernel_rfl
theorem by_111 : tyBytes Try.prog 111 = some 24 := by kernel_rfl
theorem zero_111 : tyZero Try.prog 111 = some [.nilsl] := by kernel_rfl
theorem elem_111 : tyElem Try.prog 111 = some 88 := by kernel_rfl
theorem arr_111 : tyArr Try.prog 111 = none := by kernel_rfl
theorem int_111 : tyInt Try.prog 111 = none := by kernel_rfl
theorem str_111 : tyStr Try.prog 111 = false := by kernel_rfl
theorem bool_111 : tyBool Try.prog 111 = false := by kernel_rfl
theorem ptr_111 : tyPtr Try.prog 111 = false := by kernel_rfl
theorem zag_111 : tyZag Try.prog 111 = false := by kernel_rfl
theorem map_111 : tyMap Try.prog 111 = none := by kernel_rfl
theorem pl_111 : tyPlaces Try.prog 111 = none := by kernel_rfl
def ty_111 := And.intro und_111 <| And.intro agg_111 <| And.intro sz_111 <| And.intro by_111 <| And.intro zero_111 <| And.intro elem_111 <| And.intro arr_111 <| And.intro int_111 <| And.intro str_111 <| And.intro bool_111 <| And.intro ptr_111 <| And.intro zag_111 <| And.intro map_111 <| pl_111
theorem und_113 : (Program.underlying Try.prog 113).isSome = true := by kernel_rfl
theorem agg_113 : tyAgg Try.prog 113 = some false := by kernel_rfl
theorem sz_113 : tySize Try.prog 113 = some 1 := by kernel_rfl
theorem by_113 : tyBytes Try.prog 113 = some 8 := by kernel_rfl
theorem zero_113 : tyZero Try.prog 113 = some [.nilptr] := by kernel_rfl
theorem elem_113 : tyElem Try.prog 113 = none := by kernel_rfl
theorem arr_113 : tyArr Try.prog 113 = none := by kernel_rfl
theorem int_113 : tyInt Try.prog 113 = none := by kernel_rfl
theorem str_113 : tyStr Try.prog 113 = false := by kernel_rfl
theorem bool_113 : tyBool Try.prog 113 = false := by kernel_rfl
theorem ptr_113 : tyPtr Try.prog 113 = true := by kernel_rfl
theorem zag_113 : tyZag Try.prog 113 = false := by kernel_rfl
theorem map_113 : tyMap Try.prog 113 = none := by kernel_rfl
theorem pl_113 : tyPlaces Try.prog 113 = none := by kernel_rfl
def ty_113 := And.intro und_113 <| And.intro agg_113 <| And.intro sz_113 <| And.intro by_113 <| And.intro zero_113 <| And.intro elem_113 <| And.intro arr_113 <| And.intro int_113 <| And.intro str_113 <| And.intro bool_113 <| And.intro ptr_113 <| And.intro zag_113 <| And.intro map_113 <| pl_113
theorem und_122 : (Program.underlying Try.prog 122).isSome = true := by kernel_rfl
theorem agg_122 : tyAgg Try.prog 122 = some true := by kernel_rfl
theorem sz_122 : tySize Try.prog 122 = some 7 := by kernel_rfl
theorem by_122 : tyBytes Try.prog 122 = some 72 := by kernel_rfl
theorem zero_122 : tyZero Try.prog 122 = some [.c (.int .i64 0), .c (.int .i64 0), .c (.int .i64 0), .c (.str []), .c (.int .i64 0), .c (.int .i64 0), .c (.str [])] := by kernel_rfl
theorem elem_122 : tyElem Try.prog 122 = none := by kernel_rfl
theorem arr_122 : tyArr Try.prog 122 = none := by kernel_rfl
theorem int_122 : tyInt Try.prog 122 = none := by kernel_rfl
theorem str_122 : tyStr Try.prog 122 = false := by kernel_rfl
theorem bool_122 : tyBool Try.prog 122 = false := by kernel_rfl
theorem ptr_122 : tyPtr Try.prog 122 = false := by kernel_rfl
theorem zag_122 : tyZag Try.prog 122 = true := by kernel_rfl
theorem map_122 : tyMap Try.prog 122 = none := by kernel_rfl
theorem fd_122_0 : tyField Try.prog 122 0 = some (0, 3, 1) := by kernel_rfl
theorem fd_122_1 : tyField Try.prog 122 1 = some (1, 3, 1) := by kernel_rfl
theorem fd_122_2 : tyField Try.prog 122 2 = some (2, 3, 1) := by kernel_rfl
theorem fd_122_3 : tyField Try.prog 122 3 = some (3, 9, 1) := by kernel_rfl
theorem fd_122_4 : tyField Try.prog 122 4 = some (4, 3, 1) := by kernel_rfl
theorem fd_122_5 : tyField Try.prog 122 5 = some (5, 3, 1) := by kernel_rfl
theorem fd_122_6 : tyField Try.prog 122 6 = some (6, 9, 1) := by kernel_rfl
theorem pl_122 : tyPlaces Try.prog 122 = some [(0, 1), (1, 1), (2, 1), (3, 1), (4, 1), (5, 1), (6, 1)] := by kernel_rfl
def ty_122 := And.intro und_122 <| And.intro agg_122 <| And.intro sz_122 <| And.intro by_122 <| And.intro zero_122 <| And.intro elem_122 <| And.intro arr_122 <| And.intro int_122 <| And.intro str_122 <| And.intro bool_122 <| And.intro ptr_122 <| And.intro zag_122 <| And.intro map_122 <| And.intro fd_122_0 <| And.intro fd_122_1 <| And.intro fd_122_2 <| And.intro fd_122_3 <| And.intro fd_122_4 <| And.intro fd_122_5 <| And.intro fd_122_6 <| pl_122
theorem und_124 : (Program.underlying Try.prog 124).isSome = true := by kernel_rfl
theorem agg_124 : tyAgg Try.prog 124 = some false := by kernel_rfl
theorem sz_124 : tySize Try.prog 124 = some 1 := by kernel_rfl
theorem by_124 : tyBytes Try.prog 124 = some 4 := by kernel_rfl
theorem zero_124 : tyZero Try.prog 124 = some [.c (.int .u32 0)] := by kernel_rfl
theorem elem_124 : tyElem Try.prog 124 = none := by kernel_rfl
theorem arr_124 : tyArr Try.prog 124 = none := by kernel_rfl
theorem int_124 : tyInt Try.prog 124 = some .u32 := by kernel_rfl
theorem str_124 : tyStr Try.prog 124 = false := by kernel_rfl
theorem bool_124 : tyBool Try.prog 124 = false := by kernel_rfl
theorem ptr_124 : tyPtr Try.prog 124 = false := by kernel_rfl
theorem zag_124 : tyZag Try.prog 124 = false := by kernel_rfl
theorem map_124 : tyMap Try.prog 124 = none := by kernel_rfl
theorem pl_124 : tyPlaces Try.prog 124 = none := by kernel_rfl
def ty_124 := And.intro und_124 <| And.intro agg_124 <| And.intro sz_124 <| And.intro by_124 <| And.intro zero_124 <| And.intro elem_124 <| And.intro arr_124 <| And.intro int_124 <| And.intro str_124 <| And.intro bool_124 <| And.intro ptr_124 <| And.intro zag_124 <| And.intro map_124 <| pl_124
theorem und_125 : (Program.underlying Try.prog 125).isSome = true := by kernel_rfl
theorem agg_125 : tyAgg Try.prog 125 = some true := by kernel_rfl
theorem sz_125 : tySize Try.prog 125 = some 64 := by kernel_rfl
theorem by_125 : tyBytes Try.prog 125 = some 256 := by kernel_rfl
theorem zero_125 : tyZero Try.prog 125 = some (zrep 64 (.c (.int .u32 0))) := by kernel_rfl
theorem elem_125 : tyElem Try.prog 125 = none := by kernel_rfl
theorem arr_125 : tyArr Try.prog 125 = some (64, 124) := by kernel_rfl
theorem int_125 : tyInt Try.prog 125 = none := by kernel_rfl
theorem str_125 : tyStr Try.prog 125 = false := by kernel_rfl
theorem bool_125 : tyBool Try.prog 125 = false := by kernel_rfl
theorem ptr_125 : tyPtr Try.prog 125 = false := by kernel_rfl
theorem zag_125 : tyZag Try.prog 125 = true := by kernel_rfl
theorem map_125 : tyMap Try.prog 125 = none := by kernel_rfl
theorem pl_125 : tyPlaces Try.prog 125 = none := by kernel_rfl
def ty_125 := And.intro und_125 <| And.intro agg_125 <| And.intro sz_125 <| And.intro by_125 <| And.intro zero_125 <| And.intro elem_125 <| And.intro arr_125 <| And.intro int_125 <| And.intro str_125 <| And.intro bool_125 <| And.intro ptr_125 <| And.intro zag_125 <| And.intro map_125 <| pl_125
theorem und_127 : (Program.underlying Try.prog 127).isSome = true := by kernel_rfl
theorem agg_127 : tyAgg Try.prog 127 = some true := by kernel_rfl
theorem sz_127 : tySize Try.prog 127 = some 8 := by kernel_rfl
theorem by_127 : tyBytes Try.prog 127 = some 32 := by kernel_rfl
theorem zero_127 : tyZero Try.prog 127 = some [.c (.int .u32 0), .c (.int .u32 0), .c (.int .u32 0), .c (.int .u32 0), .c (.int .u32 0), .c (.int .u32 0), .c (.int .u32 0), .c (.int .u32 0)] := by kernel_rfl
theorem elem_127 : tyElem Try.prog 127 = none := by kernel_rfl
theorem arr_127 : tyArr Try.prog 127 = some (8, 124) := by kernel_rfl
theorem int_127 : tyInt Try.prog 127 = none := by kernel_rfl
theorem str_127 : tyStr Try.prog 127 = false := by kernel_rfl
theorem bool_127 : tyBool Try.prog 127 = false := by kernel_rfl
theorem ptr_127 : tyPtr Try.prog 127 = false := by kernel_rfl
theorem zag_127 : tyZag Try.prog 127 = true := by kernel_rfl
theorem map_127 : tyMap Try.prog 127 = none := by kernel_rfl
theorem pl_127 : tyPlaces Try.prog 127 = none := by kernel_rfl
def ty_127 := And.intro und_127 <| And.intro agg_127 <| And.intro sz_127 <| And.intro by_127 <| And.intro zero_127 <| And.intro elem_127 <| And.intro arr_127 <| And.intro int_127 <| And.intro str_127 <| And.intro bool_127 <| And.intro ptr_127 <| And.intro zag_127 <| And.intro map_127 <| pl_127
theorem und_128 : (Program.underlying Try.prog 128).isSome = true := by kernel_rfl
theorem agg_128 : tyAgg Try.prog 128 = some false := by kernel_rfl
theorem sz_128 : tySize Try.prog 128 = some 1 := by kernel_rfl
theorem by_128 : tyBytes Try.prog 128 = some 8 := by kernel_rfl
theorem zero_128 : tyZero Try.prog 128 = some [.c (.int .u64 0)] := by kernel_rfl
theorem elem_128 : tyElem Try.prog 128 = none := by kernel_rfl
theorem arr_128 : tyArr Try.prog 128 = none := by kernel_rfl
theorem int_128 : tyInt Try.prog 128 = some .u64 := by kernel_rfl
theorem str_128 : tyStr Try.prog 128 = false := by kernel_rfl
theorem bool_128 : tyBool Try.prog 128 = false := by kernel_rfl
theorem ptr_128 : tyPtr Try.prog 128 = false := by kernel_rfl
theorem zag_128 : tyZag Try.prog 128 = false := by kernel_rfl
theorem map_128 : tyMap Try.prog 128 = none := by kernel_rfl
theorem pl_128 : tyPlaces Try.prog 128 = none := by kernel_rfl
def ty_128 := And.intro und_128 <| And.intro agg_128 <| And.intro sz_128 <| And.intro by_128 <| And.intro zero_128 <| And.intro elem_128 <| And.intro arr_128 <| And.intro int_128 <| And.intro str_128 <| And.intro bool_128 <| And.intro ptr_128 <| And.intro zag_128 <| And.intro map_128 <| pl_128
theorem und_133 : (Program.underlying Try.prog 133).isSome = true := by kernel_rfl
theorem agg_133 : tyAgg Try.prog 133 = some true := by kernel_rfl
theorem sz_133 : tySize Try.prog 133 = some 2 := by kernel_rfl
theorem by_133 : tyBytes Try.prog 133 = some 32 := by kernel_rfl
theorem zero_133 : tyZero Try.prog 133 = some [.nilsl, .c (.int .i64 0)] := by kernel_rfl
theorem elem_133 : tyElem Try.prog 133 = none := by kernel_rfl
theorem arr_133 : tyArr Try.prog 133 = none := by kernel_rfl
theorem int_133 : tyInt Try.prog 133 = none := by kernel_rfl
theorem str_133 : tyStr Try.prog 133 = false := by kernel_rfl
theorem bool_133 : tyBool Try.prog 133 = false := by kernel_rfl
theorem ptr_133 : tyPtr Try.prog 133 = false := by kernel_rfl
theorem zag_133 : tyZag Try.prog 133 = true := by kernel_rfl
theorem map_133 : tyMap Try.prog 133 = none := by kernel_rfl
theorem fd_133_0 : tyField Try.prog 133 0 = some (0, 88, 1) := by kernel_rfl
theorem fd_133_1 : tyField Try.prog 133 1 = some (1, 3, 1) := by kernel_rfl
theorem pl_133 : tyPlaces Try.prog 133 = some [(0, 1), (1, 1)] := by kernel_rfl
def ty_133 := And.intro und_133 <| And.intro agg_133 <| And.intro sz_133 <| And.intro by_133 <| And.intro zero_133 <| And.intro elem_133 <| And.intro arr_133 <| And.intro int_133 <| And.intro str_133 <| And.intro bool_133 <| And.intro ptr_133 <| And.intro zag_133 <| And.intro map_133 <| And.intro fd_133_0 <| And.intro fd_133_1 <| pl_133
theorem und_141 : (Program.underlying Try.prog 141).isSome = true := by kernel_rfl
theorem agg_141 : tyAgg Try.prog 141 = some true := by kernel_rfl
theorem sz_141 : tySize Try.prog 141 = some 8 := by kernel_rfl
theorem by_141 : tyBytes Try.prog 141 = some 32 := by kernel_rfl
theorem zero_141 : tyZero Try.prog 141 = some [.c (.int .u32 0), .c (.int .u32 0), .c (.int .u32 0), .c (.int .u32 0), .c (.int .u32 0), .c (.int .u32 0), .c (.int .u32 0), .c (.int .u32 0)] := by kernel_rfl
theorem elem_141 : tyElem Try.prog 141 = none := by kernel_rfl
theorem arr_141 : tyArr Try.prog 141 = some (8, 124) := by kernel_rfl
theorem int_141 : tyInt Try.prog 141 = none := by kernel_rfl
theorem str_141 : tyStr Try.prog 141 = false := by kernel_rfl
theorem bool_141 : tyBool Try.prog 141 = false := by kernel_rfl
theorem ptr_141 : tyPtr Try.prog 141 = false := by kernel_rfl
theorem zag_141 : tyZag Try.prog 141 = true := by kernel_rfl
theorem map_141 : tyMap Try.prog 141 = none := by kernel_rfl
theorem pl_141 : tyPlaces Try.prog 141 = none := by kernel_rfl
def ty_141 := And.intro und_141 <| And.intro agg_141 <| And.intro sz_141 <| And.intro by_141 <| And.intro zero_141 <| And.intro elem_141 <| And.intro arr_141 <| And.intro int_141 <| And.intro str_141 <| And.intro bool_141 <| And.intro ptr_141 <| And.intro zag_141 <| And.intro map_141 <| pl_141
theorem und_144 : (Program.underlying Try.prog 144).isSome = true := by kernel_rfl
theorem agg_144 : tyAgg Try.prog 144 = some false := by kernel_rfl
theorem sz_144 : tySize Try.prog 144 = some 1 := by kernel_rfl
theorem by_144 : tyBytes Try.prog 144 = some 8 := by kernel_rfl
theorem zero_144 : tyZero Try.prog 144 = some [.nilptr] := by kernel_rfl
theorem elem_144 : tyElem Try.prog 144 = none := by kernel_rfl
theorem arr_144 : tyArr Try.prog 144 = none := by kernel_rfl
theorem int_144 : tyInt Try.prog 144 = none := by kernel_rfl
theorem str_144 : tyStr Try.prog 144 = false := by kernel_rfl
theorem bool_144 : tyBool Try.prog 144 = false := by kernel_rfl
theorem ptr_144 : tyPtr Try.prog 144 = true := by kernel_rfl
theorem zag_144 : tyZag Try.prog 144 = false := by kernel_rfl
theorem map_144 : tyMap Try.prog 144 = none := by kernel_rfl
theorem pl_144 : tyPlaces Try.prog 144 = none := by kernel_rfl
def ty_144 := And.intro und_144 <| And.intro agg_144 <| And.intro sz_144 <| And.intro by_144 <| And.intro zero_144 <| And.intro elem_144 <| And.intro arr_144 <| And.intro int_144 <| And.intro str_144 <| And.intro bool_144 <| And.intro ptr_144 <| And.intro zag_144 <| And.intro map_144 <| pl_144
theorem und_146 : (Program.underlying Try.prog 146).isSome = true := by kernel_rfl
theorem agg_146 : tyAgg Try.prog 146 = some false := by kernel_rfl
theorem sz_146 : tySize Try.prog 146 = some 1 := by kernel_rfl
theorem by_146 : tyBytes Try.prog 146 = some 24 := by kernel_rfl
theorem zero_146 : tyZero Try.prog 146 = some [.nilsl] := by kernel_rfl
theorem elem_146 : tyElem Try.prog 146 = some 124 := by kernel_rfl
theorem arr_146 : tyArr Try.prog 146 = none := by kernel_rfl
theorem int_146 : tyInt Try.prog 146 = none := by kernel_rfl
theorem str_146 : tyStr Try.prog 146 = false := by kernel_rfl
theorem bool_146 : tyBool Try.prog 146 = false := by kernel_rfl
theorem ptr_146 : tyPtr Try.prog 146 = false := by kernel_rfl
theorem zag_146 : tyZag Try.prog 146 = false := by kernel_rfl
theorem map_146 : tyMap Try.prog 146 = none := by kernel_rfl
theorem pl_146 : tyPlaces Try.prog 146 = none := by kernel_rfl
def ty_146 := And.intro und_146 <| And.intro agg_146 <| And.intro sz_146 <| And.intro by_146 <| And.intro zero_146 <| And.intro elem_146 <| And.intro arr_146 <| And.intro int_146 <| And.intro str_146 <| And.intro bool_146 <| And.intro ptr_146 <| And.intro zag_146 <| And.intro map_146 <| pl_146
theorem und_148 : (Program.underlying Try.prog 148).isSome = true := by kernel_rfl
theorem agg_148 : tyAgg Try.prog 148 = some true := by kernel_rfl
theorem sz_148 : tySize Try.prog 148 = some 3 := by kernel_rfl
theorem by_148 : tyBytes Try.prog 148 = some 40 := by kernel_rfl
theorem zero_148 : tyZero Try.prog 148 = some [.nilsl, .c (.int .i64 0), .c (.bool false)] := by kernel_rfl
theorem elem_148 : tyElem Try.prog 148 = none := by kernel_rfl
theorem arr_148 : tyArr Try.prog 148 = none := by kernel_rfl
theorem int_148 : tyInt Try.prog 148 = none := by kernel_rfl
theorem str_148 : tyStr Try.prog 148 = false := by kernel_rfl
theorem bool_148 : tyBool Try.prog 148 = false := by kernel_rfl
theorem ptr_148 : tyPtr Try.prog 148 = false := by kernel_rfl
theorem zag_148 : tyZag Try.prog 148 = true := by kernel_rfl
theorem map_148 : tyMap Try.prog 148 = none := by kernel_rfl
theorem fd_148_0 : tyField Try.prog 148 0 = some (0, 88, 1) := by kernel_rfl
theorem fd_148_1 : tyField Try.prog 148 1 = some (1, 85, 1) := by kernel_rfl
theorem fd_148_2 : tyField Try.prog 148 2 = some (2, 4, 1) := by kernel_rfl
theorem pl_148 : tyPlaces Try.prog 148 = some [(0, 1), (1, 1), (2, 1)] := by kernel_rfl
def ty_148 := And.intro und_148 <| And.intro agg_148 <| And.intro sz_148 <| And.intro by_148 <| And.intro zero_148 <| And.intro elem_148 <| And.intro arr_148 <| And.intro int_148 <| And.intro str_148 <| And.intro bool_148 <| And.intro ptr_148 <| And.intro zag_148 <| And.intro map_148 <| And.intro fd_148_0 <| And.intro fd_148_1 <| And.intro fd_148_2 <| pl_148
theorem und_170 : (Program.underlying Try.prog 170).isSome = true := by kernel_rfl
theorem agg_170 : tyAgg Try.prog 170 = some false := by kernel_rfl
theorem sz_170 : tySize Try.prog 170 = some 1 := by kernel_rfl
theorem by_170 : tyBytes Try.prog 170 = some 8 := by kernel_rfl
theorem zero_170 : tyZero Try.prog 170 = some [.c (.int .u64 0)] := by kernel_rfl
theorem elem_170 : tyElem Try.prog 170 = none := by kernel_rfl
theorem arr_170 : tyArr Try.prog 170 = none := by kernel_rfl
theorem int_170 : tyInt Try.prog 170 = some .u64 := by kernel_rfl
theorem str_170 : tyStr Try.prog 170 = false := by kernel_rfl
theorem bool_170 : tyBool Try.prog 170 = false := by kernel_rfl
theorem ptr_170 : tyPtr Try.prog 170 = false := by kernel_rfl
theorem zag_170 : tyZag Try.prog 170 = false := by kernel_rfl
theorem map_170 : tyMap Try.prog 170 = none := by kernel_rfl
theorem pl_170 : tyPlaces Try.prog 170 = none := by kernel_rfl
def ty_170 := And.intro und_170 <| And.intro agg_170 <| And.intro sz_170 <| And.intro by_170 <| And.intro zero_170 <| And.intro elem_170 <| And.intro arr_170 <| And.intro int_170 <| And.intro str_170 <| And.intro bool_170 <| And.intro ptr_170 <| And.intro zag_170 <| And.intro map_170 <| pl_170
theorem und_180 : (Program.underlying Try.prog 180).isSome = true := by kernel_rfl
theorem agg_180 : tyAgg Try.prog 180 = some true := by kernel_rfl
theorem sz_180 : tySize Try.prog 180 = some 4 := by kernel_rfl
theorem by_180 : tyBytes Try.prog 180 = some 32 := by kernel_rfl
theorem zero_180 : tyZero Try.prog 180 = some [.c (.int .i64 0), .c (.int .i64 0), .c (.int .i64 0), .c (.int .i64 0)] := by kernel_rfl
theorem elem_180 : tyElem Try.prog 180 = none := by kernel_rfl
theorem arr_180 : tyArr Try.prog 180 = some (4, 3) := by kernel_rfl
theorem int_180 : tyInt Try.prog 180 = none := by kernel_rfl
theorem str_180 : tyStr Try.prog 180 = false := by kernel_rfl
theorem bool_180 : tyBool Try.prog 180 = false := by kernel_rfl
theorem ptr_180 : tyPtr Try.prog 180 = false := by kernel_rfl
theorem zag_180 : tyZag Try.prog 180 = true := by kernel_rfl
theorem map_180 : tyMap Try.prog 180 = none := by kernel_rfl
theorem pl_180 : tyPlaces Try.prog 180 = none := by kernel_rfl
def ty_180 := And.intro und_180 <| And.intro agg_180 <| And.intro sz_180 <| And.intro by_180 <| And.intro zero_180 <| And.intro elem_180 <| And.intro arr_180 <| And.intro int_180 <| And.intro str_180 <| And.intro bool_180 <| And.intro ptr_180 <| And.intro zag_180 <| And.intro map_180 <| pl_180
theorem nt_6 : Try.f6.ntmps = 117 := by kernel_rfl
theorem rs_6 : Try.f6.results.toList = [.tmp 2] := by kernel_rfl
theorem nt_12 : Try.f12.ntmps = 83 := by kernel_rfl
theorem rs_12 : Try.f12.results.toList = [.tmp 2] := by kernel_rfl
theorem nt_13 : Try.f13.ntmps = 10 := by kernel_rfl
theorem rs_13 : Try.f13.results.toList = [.tmp 2] := by kernel_rfl
theorem nt_14 : Try.f14.ntmps = 5 := by kernel_rfl
theorem rs_14 : Try.f14.results.toList = [.tmp 0] := by kernel_rfl
theorem nt_17 : Try.f17.ntmps = 30 := by kernel_rfl
theorem rs_17 : Try.f17.results.toList = [.tmp 6] := by kernel_rfl
theorem nt_19 : Try.f19.ntmps = 4 := by kernel_rfl
theorem rs_19 : Try.f19.results.toList = [.tmp 0] := by kernel_rfl
theorem nt_20 : Try.f20.ntmps = 40 := by kernel_rfl
theorem rs_20 : Try.f20.results.toList = [.tmp 4] := by kernel_rfl
theorem nt_21 : Try.f21.ntmps = 29 := by kernel_rfl
theorem rs_21 : Try.f21.results.toList = [.tmp 4, .tmp 5] := by kernel_rfl
theorem nt_23 : Try.f23.ntmps = 10 := by kernel_rfl
theorem rs_23 : Try.f23.results.toList = [.tmp 2] := by kernel_rfl
theorem nt_24 : Try.f24.ntmps = 17 := by kernel_rfl
theorem rs_24 : Try.f24.results.toList = [.cell 4 27, .tmp 5] := by kernel_rfl
theorem nt_25 : Try.f25.ntmps = 10 := by kernel_rfl
theorem rs_25 : Try.f25.results.toList = [.tmp 2] := by kernel_rfl
theorem nt_26 : Try.f26.ntmps = 45 := by kernel_rfl
theorem rs_26 : Try.f26.results.toList = [.tmp 4] := by kernel_rfl
theorem nt_27 : Try.f27.ntmps = 3 := by kernel_rfl
theorem rs_27 : Try.f27.results.toList = [.tmp 0] := by kernel_rfl
theorem nt_47 : Try.f47.ntmps = 3 := by kernel_rfl
theorem rs_47 : Try.f47.results.toList = [.tmp 0] := by kernel_rfl
theorem nt_48 : Try.f48.ntmps = 54 := by kernel_rfl
theorem rs_48 : Try.f48.results.toList = [.tmp 2] := by kernel_rfl
theorem nt_49 : Try.f49.ntmps = 75 := by kernel_rfl
theorem rs_49 : Try.f49.results.toList = [.tmp 2] := by kernel_rfl
theorem nt_50 : Try.f50.ntmps = 7 := by kernel_rfl
theorem rs_50 : Try.f50.results.toList = [.tmp 2] := by kernel_rfl
theorem nt_51 : Try.f51.ntmps = 19 := by kernel_rfl
theorem rs_51 : Try.f51.results.toList = [.tmp 2] := by kernel_rfl
theorem nt_52 : Try.f52.ntmps = 88 := by kernel_rfl
theorem rs_52 : Try.f52.results.toList = [.tmp 4, .tmp 5] := by kernel_rfl
theorem nt_53 : Try.f53.ntmps = 9 := by kernel_rfl
theorem rs_53 : Try.f53.results.toList = [.tmp 4] := by kernel_rfl
theorem nt_54 : Try.f54.ntmps = 8 := by kernel_rfl
theorem rs_54 : Try.f54.results.toList = [.tmp 3] := by kernel_rfl
theorem nt_55 : Try.f55.ntmps = 14 := by kernel_rfl
theorem rs_55 : Try.f55.results.toList = [.cell 2 27] := by kernel_rfl
theorem nt_57 : Try.f57.ntmps = 22 := by kernel_rfl
theorem rs_57 : Try.f57.results.toList = [.cell 4 27, .tmp 5] := by kernel_rfl
theorem nt_58 : Try.f58.ntmps = 239 := by kernel_rfl
theorem rs_58 : Try.f58.results.toList = [.tmp 2] := by kernel_rfl
theorem nt_59 : Try.f59.ntmps = 16 := by kernel_rfl
theorem rs_59 : Try.f59.results.toList = [.tmp 2] := by kernel_rfl
theorem nt_60 : Try.f60.ntmps = 26 := by kernel_rfl
theorem rs_60 : Try.f60.results.toList = [.tmp 4] := by kernel_rfl
theorem nt_61 : Try.f61.ntmps = 31 := by kernel_rfl
theorem rs_61 : Try.f61.results.toList = [.tmp 4] := by kernel_rfl
theorem nt_71 : Try.f71.ntmps = 3 := by kernel_rfl
theorem rs_71 : Try.f71.results.toList = [.cell 0 24] := by kernel_rfl
theorem nt_72 : Try.f72.ntmps = 6 := by kernel_rfl
theorem rs_72 : Try.f72.results.toList = [.tmp 2] := by kernel_rfl
theorem nt_73 : Try.f73.ntmps = 46 := by kernel_rfl
theorem rs_73 : Try.f73.results.toList = [.tmp 2] := by kernel_rfl
theorem nt_74 : Try.f74.ntmps = 9 := by kernel_rfl
theorem rs_74 : Try.f74.results.toList = [.tmp 4] := by kernel_rfl
theorem nt_75 : Try.f75.ntmps = 21 := by kernel_rfl
theorem rs_75 : Try.f75.results.toList = [.tmp 2] := by kernel_rfl
theorem nt_76 : Try.f76.ntmps = 5 := by kernel_rfl
theorem rs_76 : Try.f76.results.toList = [.tmp 2] := by kernel_rfl
theorem nt_77 : Try.f77.ntmps = 3 := by kernel_rfl
theorem rs_77 : Try.f77.results.toList = [.tmp 0] := by kernel_rfl
theorem nt_78 : Try.f78.ntmps = 41 := by kernel_rfl
theorem rs_78 : Try.f78.results.toList = [] := by kernel_rfl
theorem nt_79 : Try.f79.ntmps = 36 := by kernel_rfl
theorem rs_79 : Try.f79.results.toList = [.tmp 2, .tmp 3] := by kernel_rfl
theorem nt_80 : Try.f80.ntmps = 19 := by kernel_rfl
theorem rs_80 : Try.f80.results.toList = [.tmp 4] := by kernel_rfl
theorem nt_81 : Try.f81.ntmps = 19 := by kernel_rfl
theorem rs_81 : Try.f81.results.toList = [.tmp 4] := by kernel_rfl
theorem nt_82 : Try.f82.ntmps = 8 := by kernel_rfl
theorem rs_82 : Try.f82.results.toList = [.tmp 2] := by kernel_rfl
theorem nt_83 : Try.f83.ntmps = 8 := by kernel_rfl
theorem rs_83 : Try.f83.results.toList = [.tmp 2] := by kernel_rfl
theorem nt_85 : Try.f85.ntmps = 2 := by kernel_rfl
theorem rs_85 : Try.f85.results.toList = [.cell 0 125] := by kernel_rfl
theorem nt_86 : Try.f86.ntmps = 22 := by kernel_rfl
theorem rs_86 : Try.f86.results.toList = [.tmp 2] := by kernel_rfl
theorem nt_87 : Try.f87.ntmps = 13 := by kernel_rfl
theorem rs_87 : Try.f87.results.toList = [.tmp 4] := by kernel_rfl
theorem nt_88 : Try.f88.ntmps = 15 := by kernel_rfl
theorem rs_88 : Try.f88.results.toList = [.tmp 2, .tmp 3] := by kernel_rfl
theorem nt_89 : Try.f89.ntmps = 40 := by kernel_rfl
theorem rs_89 : Try.f89.results.toList = [.cell 4 133] := by kernel_rfl
theorem nt_90 : Try.f90.ntmps = 26 := by kernel_rfl
theorem rs_90 : Try.f90.results.toList = [.tmp 4] := by kernel_rfl
theorem nt_95 : Try.f95.ntmps = 9 := by kernel_rfl
theorem rs_95 : Try.f95.results.toList = [.tmp 2] := by kernel_rfl
theorem nt_96 : Try.f96.ntmps = 19 := by kernel_rfl
theorem rs_96 : Try.f96.results.toList = [.tmp 4] := by kernel_rfl
theorem nt_97 : Try.f97.ntmps = 2 := by kernel_rfl
theorem rs_97 : Try.f97.results.toList = [.cell 0 141] := by kernel_rfl
theorem nt_98 : Try.f98.ntmps = 2 := by kernel_rfl
theorem rs_98 : Try.f98.results.toList = [.cell 0 125] := by kernel_rfl
theorem nt_99 : Try.f99.ntmps = 19 := by kernel_rfl
theorem rs_99 : Try.f99.results.toList = [.tmp 2] := by kernel_rfl
theorem nt_100 : Try.f100.ntmps = 119 := by kernel_rfl
theorem rs_100 : Try.f100.results.toList = [.cell 6 141] := by kernel_rfl
theorem nt_101 : Try.f101.ntmps = 32 := by kernel_rfl
theorem rs_101 : Try.f101.results.toList = [.tmp 2] := by kernel_rfl
theorem nt_103 : Try.f103.ntmps = 40 := by kernel_rfl
theorem rs_103 : Try.f103.results.toList = [] := by kernel_rfl
theorem nt_104 : Try.f104.ntmps = 40 := by kernel_rfl
theorem rs_104 : Try.f104.results.toList = [] := by kernel_rfl
theorem nt_105 : Try.f105.ntmps = 11 := by kernel_rfl
theorem rs_105 : Try.f105.results.toList = [] := by kernel_rfl
theorem nt_106 : Try.f106.ntmps = 8 := by kernel_rfl
theorem rs_106 : Try.f106.results.toList = [.tmp 2] := by kernel_rfl
theorem nt_107 : Try.f107.ntmps = 29 := by kernel_rfl
theorem rs_107 : Try.f107.results.toList = [.tmp 4] := by kernel_rfl
theorem nt_108 : Try.f108.ntmps = 29 := by kernel_rfl
theorem rs_108 : Try.f108.results.toList = [.cell 4 133] := by kernel_rfl
theorem nt_109 : Try.f109.ntmps = 29 := by kernel_rfl
theorem rs_109 : Try.f109.results.toList = [.cell 4 133] := by kernel_rfl
theorem nt_110 : Try.f110.ntmps = 11 := by kernel_rfl
theorem rs_110 : Try.f110.results.toList = [.cell 4 133] := by kernel_rfl
theorem nt_119 : Try.f119.ntmps = 64 := by kernel_rfl
theorem rs_119 : Try.f119.results.toList = [.cell 2 125] := by kernel_rfl
theorem nt_120 : Try.f120.ntmps = 9 := by kernel_rfl
theorem rs_120 : Try.f120.results.toList = [.tmp 4] := by kernel_rfl
theorem nt_122 : Try.f122.ntmps = 13 := by kernel_rfl
theorem rs_122 : Try.f122.results.toList = [] := by kernel_rfl
theorem nt_123 : Try.f123.ntmps = 24 := by kernel_rfl
theorem rs_123 : Try.f123.results.toList = [] := by kernel_rfl
theorem nt_124 : Try.f124.ntmps = 19 := by kernel_rfl
theorem rs_124 : Try.f124.results.toList = [.cell 4 133] := by kernel_rfl
theorem nt_131 : Try.f131.ntmps = 33 := by kernel_rfl
theorem rs_131 : Try.f131.results.toList = [.tmp 4] := by kernel_rfl
theorem nt_132 : Try.f132.ntmps = 17 := by kernel_rfl
theorem rs_132 : Try.f132.results.toList = [.tmp 4] := by kernel_rfl
theorem nt_102 : Try.f102.ntmps = 36 := by kernel_rfl
theorem rs_102 : Try.f102.results.toList = [.tmp 2] := by kernel_rfl
theorem mixed : Try.prog.follows .mixedOrders = true := by kernel_rfl

def faultC : Contract := fun args objs => match args, objs with
  | [.ptr n 0, .c (.int .i64 e')], [[.own 1 rows, .c (.int .i64 e), .c (.bool made)]] =>
    if n = inObj 0 then some ⟨[], [[.own 1 rows, .c (.int .i64 (if e = 0 then e' else e)), .c (.bool made)]]⟩ else none
  | _, _ => none

theorem fault_sound : SoundC Try.prog 122 faultC := by
  refine sound_fn Try.func122 (by kernel_rfl) rfl rfl ?_
  intro args objs r hr
  unfold faultC at hr
  split at hr
  · rename_i n e' rows e made
    split at hr
    · rename_i hn
      subst hn
      cases hr
      refine ⟨rfl, by show 2 ≤ _; decide, fun E hN hns hF => ?_⟩
      refine vc_sound none0_sound mixed _ _ _ ?_
      have hN := hN.trans nt_122
      simp only [runA, runB, runC, runD, runE, runF, fieldE, storeE, binE, ↓reduceIte, Nat.reduceLT, Nat.reduceLeDiff, Nat.reduceEqDiff, Nat.reduceAdd, Nat.reduceMul, Nat.reduceSub, reduceCtorEq, putAt, unE, Nat.reduceBEq, convE, buildE, List.replicate, Int.reduceLT, Int.reduceLE, Int.reduceToNat, mkE, mapSetE, hN, hF, ty_4, ty_85, ty_88, ty_148]
      refine branch_intro (fun hc => ?_) (fun hc => ?_)
      all_goals
        simp only [beq_iff_eq, beq_eq_false_iff_ne, ne_eq] at hc
        simp only [runB, finC, finD, Option.isSome_some, Option.isSome_none, ↓reduceIte, Nat.reduceEqDiff, Nat.reduceAdd, Nat.reduceMul, forall_eq_or_imp, forall_eq, implies_true, Nat.reduceBEq, reduceCtorEq, false_implies, List.zip_cons_cons, List.zip_nil_left, List.zip_nil_right, Nat.reduceLeDiff, List.forall_mem_nil, rs_122, hc]
    · cases hr
  · cases hr


/-- A number's octets. -/
def putB (n : Int) (size : Int) : List UInt8 :=
  (List.range (min (max size 0) 8).toNat).map fun (i : Nat) => UInt8.ofNat ((IntKind.u64.wrap n).toNat / 256 ^ ((min (max size 0) 8).toNat - 1 - i) % 256)

def putC : Contract := fun args objs => match args, objs with
  | [.c (.int .i64 n), .c (.int .i64 size)], [] => if 0 ≤ size ∧ size ≤ 8 then some ⟨[.fresh 1 (bytes (putB n size))], []⟩ else none
  | _, _ => none

def cloneC : Contract := fun args objs => match args, objs with
  | [.c (.sl rows)], [] => if rowsOK 1 rows ∧ rows.length ≤ 140737488355328 then some ⟨[.fresh 1 rows], []⟩ else none
  | _, _ => none

theorem clone_sound : SoundC Try.prog 106 cloneC := by
  refine sound_fn Try.func106 (by kernel_rfl) rfl rfl ?_
  intro args objs r hr
  unfold cloneC at hr
  split at hr
  · rename_i rows
    split at hr
    · rename_i hc
      cases hr
      refine ⟨rfl, by show 1 ≤ _; decide, fun E hN hns hF => ?_⟩
      refine vc_sound none0_sound mixed _ _ _ ?_
      have hN := hN.trans nt_106
      have hz : rowsOK 1 [] := fun _ h => by cases h
      cases rows with
      | nil =>
        simp only [runA, runB, runC, runD, runE, runF, fieldE, storeE, binE, ↓reduceIte, Nat.reduceLT, Nat.reduceLeDiff, Nat.reduceEqDiff, Nat.reduceAdd, Nat.reduceMul, Nat.reduceSub, reduceCtorEq, putAt, unE, Nat.reduceBEq, convE, buildE, List.replicate, Int.reduceLT, Int.reduceLE, Int.reduceToNat, mkE, mapSetE, hN, hF, ty_5, ty_88, notIf, isEq, hz]
        constructor
        all_goals simp only [runB, finC, finD, Option.isSome_some, Option.isSome_none, ↓reduceIte, Nat.reduceEqDiff, Nat.reduceAdd, Nat.reduceMul, forall_eq_or_imp, forall_eq, implies_true, Nat.reduceBEq, reduceCtorEq, false_implies, List.zip_cons_cons, List.zip_nil_left, List.zip_nil_right, Nat.reduceLeDiff, List.forall_mem_nil, rs_106]
      | cons x rows =>
        obtain ⟨h1, h2⟩ := hc
        rw [List.length_cons] at h2
        simp only [runA, runB, runC, runD, runE, runF, fieldE, storeE, binE, ↓reduceIte, Nat.reduceLT, Nat.reduceLeDiff, Nat.reduceEqDiff, Nat.reduceAdd, Nat.reduceMul, Nat.reduceSub, reduceCtorEq, putAt, unE, Nat.reduceBEq, convE, buildE, List.replicate, Int.reduceLT, Int.reduceLE, Int.reduceToNat, mkE, mapSetE, hN, hF, ty_5, ty_88, notIf, isEq, h1, h2]
        simp only [runB, finC, finD, Option.isSome_some, Option.isSome_none, ↓reduceIte, Nat.reduceEqDiff, Nat.reduceAdd, Nat.reduceMul, forall_eq_or_imp, forall_eq, implies_true, Nat.reduceBEq, reduceCtorEq, false_implies, List.zip_cons_cons, List.zip_nil_left, List.zip_nil_right, Nat.reduceLeDiff, List.forall_mem_nil, rs_106]
    · cases hr
  · cases hr

theorem bytes_length (l : List UInt8) : (bytes l).length = l.length := by simp [bytes]
theorem bytes_append (a b : List UInt8) : bytes (a ++ b) = bytes a ++ bytes b := by simp [bytes]
theorem rowsOK_bytes (l : List UInt8) : rowsOK 1 (bytes l) := by
  intro r hr
  simp only [bytes, List.mem_map] at hr
  obtain ⟨b, _, rfl⟩ := hr
  rfl
/-- Rows that are octets, as octets. -/
def asB : List (List PC) → Option (List UInt8)
  | [] => some []
  | [.int .u8 n] :: rows => if 0 ≤ n ∧ n < 256 then match asB rows with | some l => some (UInt8.ofNat n.toNat :: l) | none => none else none
  | _ => none
theorem asB_bytes (l : List UInt8) : asB (bytes l) = some l := by
  induction l with
  | nil => rfl
  | cons b l ih =>
    unfold bytes at ih ⊢
    simp only [List.map_cons, asB, ih]
    have : (b.toNat : Int) < 256 := by have := b.toNat_lt; omega
    simp [this]
theorem asB_inv : ∀ {rows : List (List PC)} {l : List UInt8}, asB rows = some l → rows = bytes l
  | [], l, h => by simp only [asB, Option.some.injEq] at h; subst h; rfl
  | [.int .u8 n] :: rows, l, h => by
    simp only [asB] at h
    split at h
    · rename_i hn
      split at h
      · rename_i l' hl
        cases h
        rw [asB_inv hl]
        simp only [bytes, List.map_cons, List.cons.injEq, PC.int.injEq, true_and, and_true]
        have h1 : n.toNat < 256 := by omega
        rw [UInt8.toNat_ofNat_of_lt' h1]
        omega
      · cases h
    · cases h
theorem bytes_app (a b : List UInt8) : bytes a ++ bytes b = bytes (a ++ b) := (bytes_append a b).symm

/-- A writer's cells. -/
abbrev wOV (b : List UInt8) (e : Int) (made : Bool) : List OV := [.own 1 (bytes b), .c (.int .i64 e), .c (.bool made)]
structure WS where
  b : List UInt8
  e : Int
  deriving DecidableEq
def wNum (w : WS) (n : Int) : WS := if n < 0 ∨ 1099511627776 < n then ⟨w.b, if w.e = 0 then 4 else w.e⟩ else if w.b.length ≤ 16384 then ⟨w.b ++ putB n 6, w.e⟩ else w
def numC : Contract := fun args objs => match args, objs with
  | [.nilptr, .c (.int .i64 n)], [] => some ⟨[], []⟩
  | [.ptr p 0, .c (.int .i64 n)], [[.own 1 rows, .c (.int .i64 e), .c (.bool made)]] => match asB rows with
    | some b => if p = inObj 0 ∧ b.length ≤ 100000 then
        if made then some ⟨[], [wOV (wNum ⟨b, e⟩ n).b (wNum ⟨b, e⟩ n).e true]⟩ else some ⟨[], [wOV b e false]⟩ else none
    | none => none
  | _, _ => none

variable {Γ : FuncId → Contract}
theorem putB_length (n size : Int) : (putB n size).length = (min (max size 0) 8).toNat := by simp [putB]

set_option maxHeartbeats 4000000 in
theorem num_sound (hΓ : SoundG Try.prog Γ) (h53 : Γ 118 = putC) (h52 : Γ 122 = faultC) : SoundC Try.prog 104 numC := by
  refine sound_fn Try.func104 (by kernel_rfl) rfl rfl ?_
  intro args objs r hr
  unfold numC at hr
  split at hr
  · cases hr
    refine ⟨rfl, by show 2 ≤ _; decide, fun E hN hns hF => ?_⟩
    refine vc_sound hΓ mixed _ _ _ ?_
    have hN := hN.trans nt_104
    simp only [runA, runB, runC, runD, runE, runF, fieldE, storeE, binE, ↓reduceIte, Nat.reduceLT, Nat.reduceLeDiff, Nat.reduceEqDiff, Nat.reduceAdd, Nat.reduceMul, Nat.reduceSub, reduceCtorEq, putAt, unE, Nat.reduceBEq, convE, buildE, List.replicate, Int.reduceLT, Int.reduceLE, Int.reduceToNat, mkE, mapSetE, hN, hF, ty_3, ty_4, ty_5, ty_85, ty_88, ty_113, ty_148, notIf, isEq]
    simp only [runB, finC, finD, Option.isSome_some, Option.isSome_none, ↓reduceIte, Nat.reduceEqDiff, Nat.reduceAdd, Nat.reduceMul, forall_eq_or_imp, forall_eq, implies_true, Nat.reduceBEq, reduceCtorEq, false_implies, List.zip_cons_cons, List.zip_nil_left, List.zip_nil_right, Nat.reduceLeDiff, List.forall_mem_nil, rs_104]
  · split at hr
    · rename_i n rows e made _ b hb
      split at hr
      · rename_i hc
        obtain ⟨rfl, hlen⟩ := hc
        obtain rfl := asB_inv hb
        split at hr
        · rename_i hm
          cases hr
          refine ⟨rfl, by show 2 ≤ _; decide, fun E hN hns hF => ?_⟩
          refine vc_sound hΓ mixed _ _ _ ?_
          have hN := hN.trans nt_104
          subst hm
          have hz := rowsOK_bytes (putB n 6)
          have hL : b.length + (putB n 6).length ≤ 140737488355328 := by rw [putB_length]; omega
          have hL0 : (putB n 6).length ≤ 140737488355328 := by rw [putB_length]; omega
          cases h1 : decide (n < 0) <;> cases h2 : decide (n > 1099511627776) <;> cases h3 : decide ((b.length : Int) ≤ 16384) <;> cases h4 : (e == 0)
          all_goals
            simp only [runA, runB, runC, runD, runE, runF, fieldE, storeE, binE, ↓reduceIte, Nat.reduceLT, Nat.reduceLeDiff, Nat.reduceEqDiff, Nat.reduceAdd, Nat.reduceMul, Nat.reduceSub, reduceCtorEq, putAt, unE, Nat.reduceBEq, convE, buildE, List.replicate, Int.reduceLT, Int.reduceLE, Int.reduceToNat, mkE, mapSetE, hN, hF, ty_3, ty_4, ty_5, ty_85, ty_88, ty_113, ty_148, notIf, isEq, h1, h2, h3, h4, h52, h53, faultC, putC, bytes_length, bytes_app, hz, hL, hL0]
          all_goals try refine drawnP_intro (by kernel_rfl) (by kernel_rfl) ?_
          all_goals
            simp only [decide_eq_false_iff_not, decide_eq_true_eq, beq_iff_eq, beq_eq_false_iff_ne, ne_eq] at h1 h2 h3 h4
          all_goals
            simp only [runB, finC, finD, Option.isSome_some, Option.isSome_none, ↓reduceIte, Nat.reduceEqDiff, Nat.reduceAdd, Nat.reduceMul, forall_eq_or_imp, forall_eq, implies_true, Nat.reduceBEq, reduceCtorEq, false_implies, List.zip_cons_cons, List.zip_nil_left, List.zip_nil_right, Nat.reduceLeDiff, List.forall_mem_nil, rs_104, inBlockA_normal, bytes_length]
          all_goals
            have h3' := h3
            rw [show (16384 : Int) = ((16384 : Nat) : Int) from rfl, Int.ofNat_le] at h3'
            simp [wNum, h1, h2, h3', h4]
        · rename_i hm
          cases hr
          refine ⟨rfl, by show 2 ≤ _; decide, fun E hN hns hF => ?_⟩
          refine vc_sound hΓ mixed _ _ _ ?_
          have hN := hN.trans nt_104
          have hm : made = false := by simpa using hm
          subst hm
          simp only [runA, runB, runC, runD, runE, runF, fieldE, storeE, binE, ↓reduceIte, Nat.reduceLT, Nat.reduceLeDiff, Nat.reduceEqDiff, Nat.reduceAdd, Nat.reduceMul, Nat.reduceSub, reduceCtorEq, putAt, unE, Nat.reduceBEq, convE, buildE, List.replicate, Int.reduceLT, Int.reduceLE, Int.reduceToNat, mkE, mapSetE, hN, hF, ty_3, ty_4, ty_5, ty_85, ty_88, ty_113, ty_148, notIf, isEq]
          simp only [runB, finC, finD, Option.isSome_some, Option.isSome_none, ↓reduceIte, Nat.reduceEqDiff, Nat.reduceAdd, Nat.reduceMul, forall_eq_or_imp, forall_eq, implies_true, Nat.reduceBEq, reduceCtorEq, false_implies, List.zip_cons_cons, List.zip_nil_left, List.zip_nil_right, Nat.reduceLeDiff, List.forall_mem_nil, rs_104, bytes_length]
      · cases hr
    · cases hr
  · cases hr

open Go Go.Proofs Go.RowKit Go.Shelf
attribute [local go_sem] Oper.semAt_some

/-- The box holds the slice, the slice's places hold octets. -/
def Rd (Bs b k cap : Nat) (W : World) : Prop :=
  W.cell? ⟨Bs, 0, none⟩ = some (.slice (some ⟨b, 0, none⟩) k cap) ∧ ∀ j, j < k → ∃ x, W.cell? ⟨b, j, none⟩ = some (.int .u8 x)

set_option maxRecDepth 100000 in
set_option maxHeartbeats 4000000 in
theorem back1_in (F : Fence) (n : Nat) (h7 : F.fn 135) (hro : F.round = none) (hn : 1 ≤ n) (l Bs b k cap : Nat) (hk : k ≤ 140737488351232) (J Jx : List (Nat × Value) → World → Prop)
    (hY : ∀ pre x W, J pre W → pre.length < k → x.1 < k → YieldAt F (n - 1) Try.prog l #[.int .i64 (x.1 : Int), x.2] W fun e W' =>
      (e = .returned (.bool true) ∧ J (pre ++ [x]) W' ∧ (Rd Bs b k cap W → Rd Bs b k cap W')) ∨ (e = .returned (.bool false) ∧ Jx (pre ++ [x]) W'))
    (W : World) (hR : Rd Bs b k cap W) (h0 : J [] W) :
    CallsIn F n Try.prog 135 #[.func (.yield l) #[] #[], .pointer (some ⟨Bs, 0, none⟩)] W fun e W' => (∃ v, e = .returned v) ∧
      ((∃ ys, ys.map (·.1) = (List.range k).map (fun m => k - 1 - m) ∧ J ys W') ∨ (∃ pre, True ∧ Jx pre W')) := by
  refine callsIn_of_wp Try.func135 rfl h7 ?_ hro
  simp only [Try.ntmps135, List.size_toArray, List.length_cons, List.length_nil, Nat.reduceAdd, Nat.reduceSub, Array.replicate_succ, Array.replicate_zero, List.push_toArray, List.append_toArray, List.nil_append, List.cons_append]
  have hbox := hR.1
  gi_wp2
  gi_loopw [3] (fun i wr => ∃ (m : Nat) (ys : List (Nat × Value)), m ≤ k ∧ i = .int .i64 ((k : Int) - 1 - m) ∧ ys.map (·.1) = (List.range m).map (fun j => k - 1 - j) ∧ J ys wr ∧ Rd Bs b k cap wr)
    (fun i _ => (intOf i + 1).toNat)
  case atStart => exact ⟨0, [], Nat.zero_le _, by simp, rfl, h0, hR⟩
  case round =>
    obtain ⟨m, ys, hm, rfl, hys, hJs, hRs⟩ := hrel
    by_cases hlt : m < k
    · obtain ⟨x, hx⟩ := hRs.2 (k - 1 - m) (by omega)
      obtain ⟨fn, tmps, assign, body, hy, hR1⟩ := hY ys (k - 1 - m, .int .u8 x) wr hJs (by have := congrArg List.length hys; simp at this; omega) (by omega)
      dsimp only at hy
      have hbx := hRs.1
      have e1 : ((k - 1 - m : Nat) : Int) = (k : Int) - 1 - m := by omega
      rw [e1] at hy
      gi_wp2
      refine hR1.mono ?_
      rintro e W3 (⟨rfl, hJ3, hk3⟩ | ⟨rfl, hJx3⟩)
      · gi_wp2
        go_roundw
        case rel => exact ⟨m + 1, ys ++ [(k - 1 - m, .int .u8 x)], by omega, by congr 1; omega, by simp [hys, List.range_succ], hJ3, hk3 hRs⟩
        case measure => simp [intOf]; omega
      · gi_wp2
        refine bodyPost_ret (results_none rfl _ _ _) rfl ?_
        exact ⟨⟨_, rfl⟩, .inr ⟨_, trivial, hJx3⟩⟩
    · obtain rfl : m = k := by omega
      gi_wp2
      go_end0
      exact ⟨⟨_, rfl⟩, .inl ⟨ys, hys, hJs⟩⟩

/-- slices.Backward: the slice is boxed. -/
theorem back_in (F : Fence) (n : Nat) (h5 : F.fn 130) (hro : F.round = none) (a : Option Addr) (len cap : Nat) (w : World) :
    CallsIn F n Try.prog 130 #[.slice a len cap] w fun e w' => e = .returned (.func (.func 135) #[] #[.pointer (some ⟨w.heap.size, 0, none⟩)]) ∧ w' = w.alloc (.cells #[.slice a len cap] 88) := by
  refine callsIn_of_wp Try.func130 rfl h5 ?_ hro
  simp only [Try.ntmps130, List.size_toArray, List.length_cons, List.length_nil, Nat.reduceAdd, Nat.reduceSub, Array.replicate_succ, Array.replicate_zero, List.push_toArray, List.append_toArray, List.nil_append, List.cons_append]
  gi_wp2
  go_ret
  exact ⟨rfl, rfl⟩

theorem Rd.putObj {Bs b k cap l : Nat} {W : World} (h : Rd Bs b k cap W) (o : Obj) (h1 : Bs ≠ l) (h2 : b ≠ l) : Rd Bs b k cap (W.putObj l o) := by
  have e : ∀ (c j : Nat), c ≠ l → (W.putObj l o).cell? ⟨c, j, none⟩ = W.cell? ⟨c, j, none⟩ := fun c j hc => by
    simp only [World.cell?, World.putObj_heap_other hc]
  exact ⟨by rw [e _ _ h1]; exact h.1, fun j hj => by rw [e _ _ h2]; exact h.2 j hj⟩

theorem Rd.below {Bs b k cap B : Nat} {A W : World} (h : Rd Bs b k cap A) (hb : Below B A W) (h1 : Bs < B) (h2 : b < B) : Rd Bs b k cap W :=
  ⟨(hb.cell (p := ⟨Bs, 0, none⟩) h1).trans h.1, fun j hj => let ⟨x, hx⟩ := h.2 j hj; ⟨x, (hb.cell (p := ⟨b, j, none⟩) h2).trans hx⟩⟩

theorem back_stops (F : Fence) (n : Nat) (h7 : F.fn 135) (hro : F.round = none) (hn : 1 ≤ n) (Bs b k cap : Nat) (hk : k ≤ 140737488351232) (w : World) (hBs : Bs < w.heap.size) (hb : b < w.heap.size)
    (hR : Rd Bs b k cap w) :
    SeqStopsK F n Try.prog 135 #[.pointer (some ⟨Bs, 0, none⟩)] (fun x : Fin k × Value => #[Value.int .i64 ((x.1.val : Nat) : Int), x.2]) (fun A B => Rd Bs b k cap A → Rd Bs b k cap B)
      (fun ys => ys.map (fun x => x.1.val) = (List.range k).map (fun m => k - 1 - m)) (fun _ => True) k w := fun l J Jx W hW _ _ hY h0 => by
  have := back1_in F n h7 hro hn l Bs b k cap hk (fun ys W => ∃ zs : List (Fin k × Value), zs.map (fun x => (x.1.val, x.2)) = ys ∧ J zs W) (fun ys W => ∃ zs : List (Fin k × Value), zs.map (fun x => (x.1.val, x.2)) = ys ∧ Jx zs W) (fun pre x W hJ hlen hx => ?_) W (hR.below hW hBs hb) ⟨[], rfl, h0⟩
  · refine this.mono ?_
    rintro e W' ⟨he, ⟨ys, hys, zs, rfl, hJ⟩ | ⟨pre, _, zs, rfl, hJ⟩⟩
    · exact ⟨he, .inl ⟨zs, by rw [← hys]; simp, hJ⟩⟩
    · exact ⟨he, .inr ⟨zs, trivial, hJ⟩⟩
  · obtain ⟨zs, rfl, hJ⟩ := hJ
    obtain ⟨fn, tmps, assign, body, hy, hR1⟩ := hY zs (⟨x.1, hx⟩, x.2) W hJ (by simpa using hlen)
    refine ⟨fn, tmps, assign, body, hy, hR1.mono ?_⟩
    rintro e W' (⟨rfl, hJ', hk'⟩ | ⟨rfl, hJx'⟩)
    · exact .inl ⟨rfl, ⟨_, by simp, hJ'⟩, hk'⟩
    · exact .inr ⟨rfl, ⟨_, by simp, hJx'⟩⟩

/-- One round: a place is written. -/
def putStep (t : List Value × Int) (i : Nat) : List Value × Int := (t.1.set i (.int .u8 (t.2 % 256)), t.2 / 256)

theorem mk_run (k : Nat) (hk : k ≤ 8) (w : World) : (Instr.makeSlice 88 (.int .i64 (k : Int)) (.int .i64 (k : Int))).run Try.prog w = .ok (.slice (some ⟨w.heap.size, 0, none⟩) k k) (w.alloc (.cells (Array.replicate k (.int .u8 0)) 5)) := by
  have hi : (Try.prog.info? 5).map (fun i => (i.zero, i.size, i.bytes)) = some (some (.int .u8 0), 1, 1) := by kernel_rfl
  cases h : Try.prog.info? 5 with
  | none => rw [h] at hi; cases hi
  | some i =>
    rw [h] at hi
    simp only [Option.map_some, Option.some.injEq, Prod.mk.injEq] at hi
    obtain ⟨h2, h3, h4⟩ := hi
    have := run_makeSlice (P := Try.prog) (w := w) 88 5 i _ Try.underlying88 h h2 .i64 .i64 (k : Int) (k : Int) (by omega) (Int.le_refl _) (by rw [h3]; simp; omega) (by rw [h4]; omega) (by omega)
    simp only [Int.toNat_natCast] at this
    rw [this]
    have e : madeCells (Value.int .u8 0).cells (k * i.size) = Array.replicate k (.int .u8 0) := by
      rw [h3, Nat.mul_one]
      apply Array.ext
      · simp [madeCells]
      · intro j hj1 hj2
        simp [madeCells, Value.cells, Nat.mod_one]
    rw [e]

theorem heap_own {W W' : World} {row : Option Nat} {b : Nat} {vs : Array Value} {ty : TypeId} {fz : Nat × Nat} (h : W.heap[b]? = some (.cells vs ty fz)) (hg : W.grownBy W' row)
    (hr : ∀ r, row = some r → ∃ o : Obj, W.heap[r]? = some o ∧ o.isCells = false) : W'.heap[b]? = some (.cells vs ty fz) := by
  have hlt : b < W.heap.size := (Array.getElem?_eq_some_iff.1 h).1
  refine (hg.block b hlt (fun e => ?_)).trans h
  obtain ⟨o, ho, hc⟩ := hr b e.symm
  rw [h] at ho
  cases ho
  simp [Obj.isCells] at hc
theorem heap_set {W : World} {b o : Nat} {vs : Array Value} {ty : TypeId} {fz : Nat × Nat} (h : W.heap[b]? = some (.cells vs ty fz)) (v : Value) : (W.setCell ⟨b, o, none⟩ v).heap[b]? = some (.cells (vs.setIfInBounds o v) ty fz) := by
  simp [World.setCell, Array.getElem?_modify, h]

/-- What a round finds. -/
structure PutI (w : World) (k : Nat) (x : Int) (pre : List (Fin k × Value)) (W : World) : Prop where
  row : W.heap[w.heap.size]? = some (.cells (pre.foldl (fun t y => putStep t y.1.val) (List.replicate k (.int .u8 0), IntKind.u64.wrap x)).1.toArray 5 (0, 0))
  out : W.heap[w.heap.size + 1]? = some (.cells #[.slice (some ⟨w.heap.size, 0, none⟩) k k] 88 (0, 0))
  u : W.heap[w.heap.size + 1 + 1]? = some (.cells #[.int .u64 (pre.foldl (fun t y => putStep t y.1.val) (List.replicate k (.int .u8 0), IntKind.u64.wrap x)).2] 170 (0, 0))
  box : W.heap[w.heap.size + 1 + 1 + 1]? = some (.cells #[.slice (some ⟨w.heap.size, 0, none⟩) k k] 88 (0, 0))
  bel : Below w.heap.size w W

theorem put_len {k : Nat} : ∀ (pre : List (Fin k × Value)) (t : List Value × Int), (pre.foldl (fun t y => putStep t y.1.val) t).1.length = t.1.length := by
  intro pre
  induction pre with
  | nil => intro t; rfl
  | cons y pre ih => intro t; rw [List.foldl_cons, ih]; simp [putStep]

set_option maxRecDepth 100000 in
set_option maxHeartbeats 4000000 in
theorem put_in (F : Fence) (n : Nat) (h3 : F.fn 118) (h5 : F.fn 130) (h7 : F.fn 135) (hro : F.round = none) (hn : 3 ≤ n) (x : Int) (k : Nat) (hk : k ≤ 8) (w : World) :
    CallsIn F n Try.prog 118 #[.int .i64 x, .int .i64 (k : Int)] w fun e W' => e = .returned (.slice (some ⟨w.heap.size, 0, none⟩) k k) ∧ Below w.heap.size w W' ∧
      ∃ pre : List (Fin k × Value), pre.map (fun x => x.1.val) = (List.range k).map (fun m => k - 1 - m) ∧
        W'.heap[w.heap.size]? = some (.cells (pre.foldl (fun t y => putStep t y.1.val) (List.replicate k (.int .u8 0), IntKind.u64.wrap x)).1.toArray 5 (0, 0)) := by
  have h1 : 1 ≤ n := by omega
  have g1 : ¬ ((0 : Int) > (k : Int)) := by omega
  have g2 : ¬ ((8 : Int) < (k : Int)) := by omega
  have hmk := mk_run k hk
  refine callsIn_of_wp_marks Try.func118 rfl h3 ?_ hro
  simp only [Try.ntmps118, List.size_toArray, List.length_cons, List.length_nil, Nat.reduceAdd, Nat.reduceSub, Array.replicate_succ, Array.replicate_zero, List.push_toArray, List.append_toArray, List.nil_append, List.cons_append]
  gi_wp2_with (gi_at_call 130; refine (back_in F (n - 1) h5 hro _ _ _ _).mono ?_; rintro e w' ⟨rfl, rfl⟩)
  have hI0 : PutI w k x [] ((((w.alloc (.cells (Array.replicate k (.int .u8 0)) 5)).alloc (.cells #[.slice (some ⟨w.heap.size, 0, none⟩) k k] 88)).alloc (.cells #[.int .u64 (IntKind.u64.wrap x)] 170)).alloc (.cells #[.slice (some ⟨w.heap.size, 0, none⟩) k k] 88)) := by
    have a0 : ∀ (v : World) (o : Obj) (b : Nat), b < v.heap.size → (v.alloc o).heap[b]? = v.heap[b]? := fun v o b hb => Below.heap_alloc v o b hb
    have a1 : ∀ (v : World) (o : Obj), (v.alloc o).heap[v.heap.size]? = some o := fun v o => World.alloc_heap_new v o
    refine ⟨?_, ?_, ?_, ?_, ?_⟩
    · rw [a0 _ _ _ (by simp; omega), a0 _ _ _ (by simp; omega), a0 _ _ _ (by simp), a1]; simp
    · rw [a0 _ _ _ (by simp), a0 _ _ _ (by simp)]
      have := a1 (w.alloc (.cells (Array.replicate k (.int .u8 0)) 5)) (.cells #[.slice (some ⟨w.heap.size, 0, none⟩) k k] 88)
      rwa [World.size_alloc] at this
    · rw [a0 _ _ _ (by simp)]
      have := a1 ((w.alloc (.cells (Array.replicate k (.int .u8 0)) 5)).alloc (.cells #[.slice (some ⟨w.heap.size, 0, none⟩) k k] 88)) (.cells #[.int .u64 (IntKind.u64.wrap x)] 170)
      rwa [World.size_alloc, World.size_alloc] at this
    · have := a1 (((w.alloc (.cells (Array.replicate k (.int .u8 0)) 5)).alloc (.cells #[.slice (some ⟨w.heap.size, 0, none⟩) k k] 88)).alloc (.cells #[.int .u64 (IntKind.u64.wrap x)] 170)) (.cells #[.slice (some ⟨w.heap.size, 0, none⟩) k k] 88)
      rwa [World.size_alloc, World.size_alloc, World.size_alloc] at this
    · exact ((((Below.refl _ w).alloc (Nat.le_refl _) _).alloc (by simp) _).alloc (by simp; omega) _).alloc (by simp; omega) _
  generalize hW0 : ((((w.alloc (.cells (Array.replicate k (.int .u8 0)) 5)).alloc (.cells #[.slice (some ⟨w.heap.size, 0, none⟩) k k] 88)).alloc (.cells #[.int .u64 (IntKind.u64.wrap x)] 170)).alloc (.cells #[.slice (some ⟨w.heap.size, 0, none⟩) k k] 88)) = W0 at hI0 ⊢
  have hsz : W0.heap.size = w.heap.size + 4 := by rw [← hW0]; simp
  have hRd : ∀ pre W, PutI w k x pre W → Rd (w.heap.size + 1 + 1 + 1) w.heap.size k k W := by
    intro pre W hP
    refine ⟨by simp [World.cell?, hP.box], fun j hj => ?_⟩
    have hrow := hP.row
    have hu8 : ∀ (pre : List (Fin k × Value)) (t : List Value × Int), (∀ v ∈ t.1, ∃ z, v = .int .u8 z) → ∀ v ∈ (pre.foldl (fun t y => putStep t y.1.val) t).1, ∃ z, v = .int .u8 z := by
      intro pre
      induction pre with
      | nil => intro t h; exact h
      | cons y pre ih =>
        intro t h
        rw [List.foldl_cons]
        refine ih _ fun v hv => ?_
        rcases List.mem_or_eq_of_mem_set hv with h1 | h1
        · exact h v h1
        · exact ⟨_, h1⟩
    have hl := put_len (k := k) pre (List.replicate k (.int .u8 0), IntKind.u64.wrap x)
    rw [List.length_replicate] at hl
    generalize hT : pre.foldl (fun t y => putStep t y.1.val) (List.replicate k (.int .u8 0), IntKind.u64.wrap x) = T at hrow hl
    have h8 : ∀ v ∈ T.1, ∃ z, v = .int .u8 z := by
      rw [← hT]
      exact hu8 pre _ (fun v hv => ⟨0, (List.mem_replicate.1 hv).2⟩)
    obtain ⟨z, hz⟩ := h8 (T.1[j]'(by omega)) (by simp)
    exact ⟨z, by simp [World.cell?, hrow, ← hz, hl, hj]⟩
  refine wpIn_rangeFunc_ownF hro h1 (gf := 135) (lb := #[.pointer (some ⟨w.heap.size + 1 + 1 + 1, 0, none⟩)]) rfl h7 (enters_of Try.func135 (by kernel_rfl) rfl)
    (back_stops F (n - 1) h7 hro (by omega) (w.heap.size + 1 + 1 + 1) w.heap.size k k (by omega) W0 (by omega) (by omega) (hRd _ _ hI0))
    (fun h g r => g (h r)) (fun W l o o' hl _ _ _ r => r.putObj o' (by omega) (by omega)) (Below.refl _ _) (fun _ => rfl)
    (PutI w k x) (fun _ _ _ => False)
    (fun s A B row hs hg hr => ?own)
    (fun _ _ _ _ _ hs _ _ => hs)
    hI0
    (fun y => { tmps := #[.int .i64 x, .int .i64 (k : Int), undef, undef, .slice none 0 0, .pointer (some ⟨w.heap.size + 1, 0, none⟩), .pointer (some ⟨w.heap.size + 1 + 1, 0, none⟩), .int .i64 (y.1.val : Int), .int .i64 (k : Int),
      .int .i64 (k : Int), .int .i64 (k : Int), .slice (some ⟨w.heap.size, 0, none⟩) k k, .int .i64 x, .int .u64 (IntKind.u64.wrap x), .slice (some ⟨w.heap.size, 0, none⟩) k k,
      .func (.func 135) #[] #[.pointer (some ⟨w.heap.size + 1 + 1 + 1, 0, none⟩)], .int .i64 (y.1.val : Int), y.2, undef, undef, undef, undef, undef, undef, undef, undef], defers := [] }) ?assign ?body ?done ?stop
  case own =>
    have hr' : ∀ r, row = some r → ∃ o : Obj, A.heap[r]? = some o ∧ o.isCells = false := fun r e => (hr r e).2
    exact ⟨heap_own hs.row hg hr', heap_own hs.out hg hr', heap_own hs.u hg hr', heap_own hs.box hg hr', hs.bel.grown hg hs.bel.size (fun j e => by have := (hr j e).1; omega)⟩
  case assign =>
    intro l y W K hK
    gi_wp2
    exact hK
  case body =>
    rintro l pre y W hP _
    have hrow := hP.row
    have hout := hP.out
    have hu := hP.u
    have hylt := y.1.isLt
    generalize hT : pre.foldl (fun t y => putStep t y.1.val) (List.replicate k (.int .u8 0), IntKind.u64.wrap x) = T at hrow hu
    have c1 : W.cell? ⟨w.heap.size + 1, 0, none⟩ = some (.slice (some ⟨w.heap.size, 0, none⟩) k k) := by simp [World.cell?, hout]
    have c2 : W.cell? ⟨w.heap.size + 1 + 1, 0, none⟩ = some (.int .u64 T.2) := by simp [World.cell?, hu]
    have hTl : T.1.length = k := by rw [← hT, put_len]; simp
    have c3 : W.cell? ⟨w.heap.size, y.1.val, none⟩ = some (T.1[y.1.val]'(by omega)) := by simp [World.cell?, hrow, hTl]
    have f1 : W.frozen? ⟨w.heap.size, y.1.val, none⟩ = false := by simp [World.frozen?, hrow]
    have f2 : W.frozen? ⟨w.heap.size + 1 + 1, 0, none⟩ = false := by simp [World.frozen?, hu]
    gi_wp2
    have hstep : (pre ++ [y]).foldl (fun t y => putStep t y.1.val) (List.replicate k (.int .u8 0), IntKind.u64.wrap x) = putStep T y.1.val := by rw [List.foldl_append, hT]; rfl
    have hP' : PutI w k x (pre ++ [y]) ((W.setCell ⟨w.heap.size, y.1.val, none⟩ (.int .u8 (T.2 % 256))).setCell ⟨w.heap.size + 1 + 1, 0, none⟩ (.int .u64 (T.2 / 256))) := by
      refine ⟨?_, ?_, ?_, ?_, ?_⟩
      · rw [hstep, Below.heap_setCell _ _ _ _ (by dsimp only; omega), heap_set hrow]
        simp [putStep]
      · rw [Below.heap_setCell _ _ _ _ (by dsimp only; omega), Below.heap_setCell _ _ _ _ (by dsimp only; omega)]; exact hout
      · rw [hstep, heap_set (by rw [Below.heap_setCell _ _ _ _ (by dsimp only; omega)]; exact hu)]
        simp [putStep]
      · rw [Below.heap_setCell _ _ _ _ (by dsimp only; omega), Below.heap_setCell _ _ _ _ (by dsimp only; omega)]; exact hP.box
      · exact (hP.bel.setCell (p := ⟨w.heap.size, y.1.val, none⟩) (Nat.le_refl _) _).setCell (p := ⟨w.heap.size + 1 + 1, 0, none⟩) (by simp; omega) _
    exact ⟨(KeepsOthers.setCell _ _ _).trans (KeepsOthers.setCell _ _ _), fun _ => hRd _ _ hP', hP'⟩
  case done =>
    rintro D ys W hD hys hP hK
    have hout := hP.out
    have c1 : W.cell? ⟨w.heap.size + 1, 0, none⟩ = some (.slice (some ⟨w.heap.size, 0, none⟩) k k) := by simp [World.cell?, hout]
    gi_wp2
    refine ⟨by simp, .inl ⟨_, _, rfl, run_takeDeferred hK, ?_⟩⟩
    refine ⟨_, results_tmp rfl _ _ _, rfl, hP.bel.trans (belowK_b (w := w) (Nat.le_refl _) W D _ _ (by omega) hK rfl rfl), ys, hys, ?_⟩
    rw [World.putObj_heap_other (by omega)]
    exact hP.row
  case stop =>
    rintro D c pre W _ _ h _
    exact h.elim

/-- What the rounds have written: the number's octets. -/
theorem put_fold (k : Nat) (U : Int) (hU : 0 ≤ U) : ∀ m, m ≤ k → ∃ T : List Value × Int, ((List.range m).map (fun j => k - 1 - j)).foldl putStep (List.replicate k (.int .u8 0), U) = T ∧ T.2 = U / 256 ^ m ∧ T.1.length = k ∧
    ∀ i, i < k → k - m ≤ i → T.1[i]? = some (.int .u8 (U / 256 ^ (k - 1 - i) % 256)) := by
  intro m
  induction m with
  | zero => exact fun _ => ⟨_, rfl, by simp, by simp, fun i h1 h2 => by omega⟩
  | succ m ih =>
    intro hm
    obtain ⟨T, h1, h2, h3, h4⟩ := ih (by omega)
    rw [List.range_succ, List.map_append, List.foldl_append, h1]
    refine ⟨_, rfl, ?_, ?_, fun i hi hle => ?_⟩
    · simp only [List.map_cons, List.map_nil, List.foldl_cons, List.foldl_nil, putStep, h2]
      rw [Int.ediv_ediv_of_nonneg (Int.le_of_lt (Int.pow_pos (by decide))), Int.pow_succ]
    · simp [putStep, h3]
    · simp only [List.map_cons, List.map_nil, List.foldl_cons, List.foldl_nil, putStep]
      rw [List.getElem?_set]
      by_cases e : k - 1 - m = i
      · rw [if_pos e, if_pos (by omega), h2]
        have : m = k - 1 - i := by omega
        rw [this]
      · rw [if_neg e]
        exact h4 i hi (by omega)

theorem put_sound : SoundC Try.prog 118 putC := by
  refine ⟨⟨_, Try.func118, rfl, rfl⟩, fun args objs r hr => ?_⟩
  unfold putC at hr
  split at hr
  · rename_i n size
    split at hr
    · rename_i hs
      cases hr
      refine ⟨fun x hx => ?_, fun Ext G w vals M hl hx => ?_⟩
      · simp at hx
      · obtain ⟨k, hk⟩ : ∃ k : Nat, size = (k : Int) := ⟨size.toNat, by omega⟩
        subst hk
        have hk8 : k ≤ 8 := by omega
        match vals, hl with
        | [v1, v2], _ =>
        have e1 : v1 = .int .i64 n := by
          have := hx 0 _ v1 rfl rfl
          cases this with
          | c _ _ h => cases h; rfl
        have e2 : v2 = .int .i64 (k : Int) := by
          have := hx 1 _ v2 rfl rfl
          cases this with
          | c _ _ h => cases h; rfl
        subst e1 e2
        refine Calls.mono (callsIn_wide.1 (put_in Fence.wide 3 trivial trivial trivial rfl (by omega) n k hk8 w)) ?_
        rintro e W' ⟨rfl, bel, pre, hpre, hrow⟩
        rw [← List.foldl_map (f := fun y : Fin k × Value => y.1.val) (g := putStep), hpre] at hrow
        have hU : 0 ≤ IntKind.u64.wrap n := wrap_u64_nonneg n
        obtain ⟨T, h1, h2, h3, h4⟩ := put_fold k (IntKind.u64.wrap n) hU k (Nat.le_refl _)
        rw [h1] at hrow
        have hlen : (putB n (k : Int)).length = k := by rw [putB_length]; omega
        have hv : ∀ (j : Nat) (r : List PC) (i : Nat) (c : PC), (bytes (putB n (k : Int)))[j]? = some r → r[i]? = some c → ∃ v, T.1.toArray[j * 1 + i]? = some v ∧ VR G.K c v := by
          intro j r i c hj hi
          simp only [bytes, List.getElem?_map, Option.map_eq_some_iff] at hj
          obtain ⟨b, hb, rfl⟩ := hj
          have hjk : j < k := by rw [← hlen]; exact (List.getElem?_eq_some_iff.1 hb).1
          have hi0 : i = 0 := by
            have := (List.getElem?_eq_some_iff.1 hi).1
            simpa using this
          subst hi0
          simp at hi
          subst hi
          refine ⟨.int .u8 (IntKind.u64.wrap n / 256 ^ (k - 1 - j) % 256), ?_, ?_⟩
          · have := h4 j hjk (by omega)
            simpa using this
          · have hm : (min (max (k : Int) 0) 8).toNat = k := by omega
            have : b = UInt8.ofNat ((IntKind.u64.wrap n).toNat / 256 ^ (k - 1 - j) % 256) := by
              unfold putB at hb
              rw [hm, List.getElem?_map, List.getElem?_range hjk] at hb
              simpa using hb.symm
            rw [this, UInt8.toNat_ofNat_of_lt' (Nat.mod_lt _ (by decide))]
            have e : ((( IntKind.u64.wrap n).toNat / 256 ^ (k - 1 - j) % 256 : Nat) : Int) = IntKind.u64.wrap n / 256 ^ (k - 1 - j) % 256 := by
              rw [Int.natCast_emod, Int.natCast_ediv, Int.natCast_pow, Int.toNat_of_nonneg hU]
              rfl
            rw [e]
            exact .int _ _
        obtain ⟨G', g1, g2, g3⟩ := M.newRow (w' := W') (n := outName 0) rfl (z := 1) (cap := k) (rows := bytes (putB n (k : Int))) (by decide) (bytes_rows _) (by rw [bytes_length, hlen]; exact Nat.le_refl _) (by simp [h3]) hrow hv (fun b hb => bel.block b hb) bel.os bel.tape bel.output bel.size
        · rw [bytes_length, hlen] at g2
          refine ⟨G', _, rfl, g1, ?_, g2⟩
          refine g3.congr fun i => ?_
          simp only [exitMem, entryMem, List.nil_append, resAt, look, mset, bytes_length]
    · cases hr
  · cases hr


variable {Γ : FuncId → Contract}

/-- The octets that have come when so many rounds are over. -/
def putTo (n : Int) (k i : Nat) : List UInt8 := (List.range i).map fun (j : Nat) => UInt8.ofNat ((IntKind.u64.wrap n).toNat / 256 ^ (k - 1 - j) % 256)
theorem putTo_all (n : Int) (k : Nat) (hk : k ≤ 8) : putTo n k k = putB n (k : Int) := by
  unfold putTo putB
  have : (min (max (k : Int) 0) 8).toNat = k := by omega
  rw [this]

set_option maxHeartbeats 4000000 in
theorem refPut_sound (hΓ : SoundG Try.prog Γ) : SoundC Try.prog 107 putC := by
  refine sound_fn Try.func107 (by kernel_rfl) rfl rfl ?_
  intro args objs r hr
  unfold putC at hr
  split at hr
  · rename_i n size
    split at hr
    · rename_i hs
      cases hr
      refine ⟨rfl, by show 2 ≤ _; decide, fun E hN hns hF => ?_⟩
      refine vc_sound hΓ mixed _ _ _ ?_
      have hN := hN.trans nt_107
      obtain ⟨k, hk⟩ : ∃ k : Nat, size = (k : Int) := ⟨size.toNat, by omega⟩
      subst hk
      have hk8 : k ≤ 8 := by omega
      have g1 : ¬ ((0 : Int) > (k : Int)) := by omega
      have g2 : ¬ ((8 : Int) < (k : Int)) := by omega
      simp only [runA, runB, runC, runD, runE, runF, fieldE, storeE, binE, ↓reduceIte, Nat.reduceLT, Nat.reduceLeDiff, Nat.reduceEqDiff, Nat.reduceAdd, Nat.reduceMul, Nat.reduceSub, reduceCtorEq, putAt, unE, Nat.reduceBEq, convE, buildE, List.replicate, Int.reduceLT, Int.reduceLE, Int.reduceToNat, mkE, mapSetE, hN, hF, ty_3, ty_5, ty_88, ty_128, ty_170, notIf, isEq, g1, g2, Bool.false_eq_true]
      refine AWP.loop (fun c s => ∃ i : Nat, i ≤ k ∧ c = k - i ∧ s = ⟨[(0, .c (.int .i64 n)), (1, .c (.int .i64 (k : Int))), (5, .own 1729 1 (bytes (putTo n k i))), (6, .c (.int .i64 (i : Int)))], [(1729, .row 1 i)]⟩) ⟨k, _, ?w, 0, Nat.zero_le _, rfl, rfl⟩ ?r
      case w =>
        rw [hns]
        simp only [runB, finC, finD, AS.get, AS.mem, false_implies, implies_true, ↓reduceIte, Nat.reduceEqDiff, Option.isSome_some, Option.isSome_none, forall_eq_or_imp, forall_eq, reduceCtorEq, Nat.reduceAdd, Nat.reduceMul, List.zip_cons_cons, List.zip_nil_left, List.zip_nil_right, List.forall_mem_nil]
        refine ⟨rfl, rfl⟩
      case r =>
        rintro c s ⟨i, hi, rfl, rfl⟩
        refine vc_sound hΓ mixed _ _ _ ?_
        by_cases hlt : i < k
        · have h1 : decide ((i : Int) < (k : Int)) = true := by simpa using hlt
          have e1 : IntKind.i64.wrap ((k : Int) - 1) = (k : Int) - 1 := wrapI (by omega)
          have e2 : IntKind.i64.wrap ((k : Int) - 1 - i) = (k : Int) - 1 - i := wrapI (by omega)
          have e3 : IntKind.i64.wrap (8 * ((k : Int) - 1 - i)) = 8 * ((k : Int) - 1 - i) := wrapI (by omega)
          have e4 : IntKind.u64.wrap (8 * ((k : Int) - 1 - i)) = 8 * ((k : Int) - 1 - i) := wrapU (by omega)
          have e5 : IntKind.i64.wrap ((i : Int) + 1) = (i : Int) + 1 := wrapI (by omega)
          have hsh : shOp .shr .u64 (IntKind.u64.wrap n) (8 * ((k : Int) - 1 - i)) = some (.int .u64 (IntKind.u64.wrap n / 256 ^ (k - 1 - i))) := by
            have hb : ¬ (8 * ((k : Int) - 1 - i) < 0) := by omega
            have hm : min (8 * ((k : Int) - 1 - i)).toNat IntKind.u64.bits = 8 * (k - 1 - i) := by
              have : IntKind.u64.bits = 64 := rfl
              omega
            simp only [shOp, if_neg hb, hm]
            rw [Int.pow_mul, show (2 : Int) ^ 8 = 256 from rfl, Int.fdiv_eq_ediv_of_nonneg _ (Int.le_of_lt (Int.pow_pos (by decide)))]
          have hz : ∀ v : Int, rowsOK 1 [[PC.int .u8 v]] := fun v r hr => by simp at hr; subst hr; rfl
          have hrow : bytes (putTo n k i) ++ [[PC.int .u8 (IntKind.u64.wrap n / 256 ^ (k - 1 - i) % 256)]] = bytes (putTo n k (i + 1)) := by
            have hU : 0 ≤ IntKind.u64.wrap n := wrap_u64_nonneg n
            rw [show putTo n k (i + 1) = putTo n k i ++ [UInt8.ofNat ((IntKind.u64.wrap n).toNat / 256 ^ (k - 1 - i) % 256)] from by simp [putTo, List.range_succ], bytes_append]
            congr 1
            simp only [bytes, List.map_cons, List.map_nil]
            rw [UInt8.toNat_ofNat_of_lt' (Nat.mod_lt _ (by decide))]
            have e : (((IntKind.u64.wrap n).toNat / 256 ^ (k - 1 - i) % 256 : Nat) : Int) = IntKind.u64.wrap n / 256 ^ (k - 1 - i) % 256 := by
              rw [Int.natCast_emod, Int.natCast_ediv, Int.natCast_pow, Int.toNat_of_nonneg hU]
              rfl
            rw [e]
          have hlen : (putTo n k i).length = i := by simp [putTo]
          have hL : i ≤ 140737488355327 := by omega
          simp only [runA, runB, runC, runD, runE, runF, fieldE, storeE, binE, ↓reduceIte, Nat.reduceLT, Nat.reduceLeDiff, Nat.reduceEqDiff, Nat.reduceAdd, Nat.reduceMul, Nat.reduceSub, reduceCtorEq, putAt, unE, Nat.reduceBEq, convE, buildE, List.replicate, Int.reduceLT, Int.reduceLE, Int.reduceToNat, mkE, mapSetE, hN, hF, ty_3, ty_5, ty_88, ty_128, ty_170, notIf, isEq, h1, e1, e2, e3, e4, e5, hsh, hz, wrapB, hrow, bytes_length, hlen, hL]
          refine ⟨k - (i + 1), _, by omega, ?_, i + 1, by omega, rfl, rfl⟩
          rw [hns]
          simp only [runB, finC, finD, AS.get, AS.mem, false_implies, implies_true, ↓reduceIte, Nat.reduceEqDiff, Option.isSome_some, Option.isSome_none, forall_eq_or_imp, forall_eq, reduceCtorEq, Nat.reduceAdd, Nat.reduceMul, List.zip_cons_cons, List.zip_nil_left, List.zip_nil_right, List.forall_mem_nil]
          first | done | rfl
        · have h1 : decide ((i : Int) < (k : Int)) = false := by simpa using hlt
          simp only [runA, runB, runC, runD, runE, runF, fieldE, storeE, binE, ↓reduceIte, Nat.reduceLT, Nat.reduceLeDiff, Nat.reduceEqDiff, Nat.reduceAdd, Nat.reduceMul, Nat.reduceSub, reduceCtorEq, putAt, unE, Nat.reduceBEq, convE, buildE, List.replicate, Int.reduceLT, Int.reduceLE, Int.reduceToNat, mkE, mapSetE, hN, hF, ty_3, ty_5, ty_88, ty_128, ty_170, notIf, isEq, h1]
          obtain rfl : i = k := by omega
          rw [← putTo_all n i hk8]
          have hlen : (putTo n i i).length = i := by simp [putTo]
          simp only [runB, finC, finD, Option.isSome_some, Option.isSome_none, ↓reduceIte, Nat.reduceEqDiff, Nat.reduceAdd, Nat.reduceMul, forall_eq_or_imp, forall_eq, implies_true, Nat.reduceBEq, reduceCtorEq, false_implies, List.zip_cons_cons, List.zip_nil_left, List.zip_nil_right, Nat.reduceLeDiff, List.forall_mem_nil, rs_107, bytes_length, hlen]
    · cases hr
  · cases hr

end Go.Proofs.Ytenmlgalcjkdbaa.AM
