/-
  Q5: Ty Pk1 Pk2 Put Pk3 PkN PkT Lo.
-/
import Derived.Test.YtcfijanfcgnnhaaQ3
import Derived.Test.YtcfijanfcgnnhaaProg
import Derived.KernelRfl
import Derived.RangeFuncNested
import Derived.RangeFuncBound
import Derived.RangeFuncCalls
import Derived.RangeFuncLeaves
import Derived.RangeFuncBox
import Derived.Shelf.Abstract
import Derived.Shelf.RegionOpen
import Derived.WalkKit
import Derived.OwnWalkIn
import Derived.TacticsInMore
import Derived.LoopNIn
import Derived.LoopIn
set_option linter.defProp false
set_option linter.unusedVariables false
set_option linter.unusedSimpArgs false
namespace Go.Proofs.Ytcfijanfcgnnhaa.AM
open Go

theorem und_3 : (Program.underlying Try.prog 3).isSome = true := by kernel_rfl
theorem agg_3 : tyAgg Try.prog 3 = some false := by kernel_rfl
theorem sz_3 : tySize Try.prog 3 = some 1 := by kernel_rfl
theorem by_3 : tyBytes Try.prog 3 = some 8 := by kernel_rfl
theorem zero_3 : tyZero Try.prog 3 = some [.c (.int .i64 0)] := by kernel_rfl
theorem elem_3 : tyElem Try.prog 3 = none := by kernel_rfl
theorem arr_3 : tyArr Try.prog 3 = none := by kernel_rfl
theorem int_3 : tyInt Try.prog 3 = some .i64 := by kernel_rfl
theorem str_3 : tyStr Try.prog 3 = false := by kernel_rfl
theorem bool_3 : tyBool Try.prog 3 = false := by kernel_rfl
theorem ptr_3 : tyPtr Try.prog 3 = false := by kernel_rfl
theorem zag_3 : tyZag Try.prog 3 = false := by kernel_rfl
theorem map_3 : tyMap Try.prog 3 = none := by kernel_rfl
theorem pl_3 : tyPlaces Try.prog 3 = none := by kernel_rfl
def ty_3 := And.intro und_3 <| And.intro agg_3 <| And.intro sz_3 <| And.intro by_3 <| And.intro zero_3 <| And.intro elem_3 <| And.intro arr_3 <| And.intro int_3 <| And.intro str_3 <| And.intro bool_3 <| And.intro ptr_3 <| And.intro zag_3 <| And.intro map_3 <| pl_3
theorem und_4 : (Program.underlying Try.prog 4).isSome = true := by kernel_rfl
theorem agg_4 : tyAgg Try.prog 4 = some false := by kernel_rfl
theorem sz_4 : tySize Try.prog 4 = some 1 := by kernel_rfl
theorem by_4 : tyBytes Try.prog 4 = some 1 := by kernel_rfl
theorem zero_4 : tyZero Try.prog 4 = some [.c (.bool false)] := by kernel_rfl
theorem elem_4 : tyElem Try.prog 4 = none := by kernel_rfl
theorem arr_4 : tyArr Try.prog 4 = none := by kernel_rfl
theorem int_4 : tyInt Try.prog 4 = none := by kernel_rfl
theorem str_4 : tyStr Try.prog 4 = false := by kernel_rfl
theorem bool_4 : tyBool Try.prog 4 = true := by kernel_rfl
theorem ptr_4 : tyPtr Try.prog 4 = false := by kernel_rfl
theorem zag_4 : tyZag Try.prog 4 = false := by kernel_rfl
theorem map_4 : tyMap Try.prog 4 = none := by kernel_rfl
theorem pl_4 : tyPlaces Try.prog 4 = none := by kernel_rfl
def ty_4 := And.intro und_4 <| And.intro agg_4 <| And.intro sz_4 <| And.intro by_4 <| And.intro zero_4 <| And.intro elem_4 <| And.intro arr_4 <| And.intro int_4 <| And.intro str_4 <| And.intro bool_4 <| And.intro ptr_4 <| And.intro zag_4 <| And.intro map_4 <| pl_4
theorem und_5 : (Program.underlying Try.prog 5).isSome = true := by kernel_rfl
theorem agg_5 : tyAgg Try.prog 5 = some false := by kernel_rfl
theorem sz_5 : tySize Try.prog 5 = some 1 := by kernel_rfl
theorem by_5 : tyBytes Try.prog 5 = some 1 := by kernel_rfl
theorem zero_5 : tyZero Try.prog 5 = some [.c (.int .u8 0)] := by kernel_rfl
theorem elem_5 : tyElem Try.prog 5 = none := by kernel_rfl
theorem arr_5 : tyArr Try.prog 5 = none := by kernel_rfl
theorem int_5 : tyInt Try.prog 5 = some .u8 := by kernel_rfl
theorem str_5 : tyStr Try.prog 5 = false := by kernel_rfl
theorem bool_5 : tyBool Try.prog 5 = false := by kernel_rfl
theorem ptr_5 : tyPtr Try.prog 5 = false := by kernel_rfl
theorem zag_5 : tyZag Try.prog 5 = false := by kernel_rfl
theorem map_5 : tyMap Try.prog 5 = none := by kernel_rfl
theorem pl_5 : tyPlaces Try.prog 5 = none := by kernel_rfl
def ty_5 := And.intro und_5 <| And.intro agg_5 <| And.intro sz_5 <| And.intro by_5 <| And.intro zero_5 <| And.intro elem_5 <| And.intro arr_5 <| And.intro int_5 <| And.intro str_5 <| And.intro bool_5 <| And.intro ptr_5 <| And.intro zag_5 <| And.intro map_5 <| pl_5
theorem und_9 : (Program.underlying Try.prog 9).isSome = true := by kernel_rfl
theorem agg_9 : tyAgg Try.prog 9 = some false := by kernel_rfl
theorem sz_9 : tySize Try.prog 9 = some 1 := by kernel_rfl
theorem by_9 : tyBytes Try.prog 9 = some 16 := by kernel_rfl
theorem zero_9 : tyZero Try.prog 9 = some [.c (.str [])] := by kernel_rfl
theorem elem_9 : tyElem Try.prog 9 = none := by kernel_rfl
theorem arr_9 : tyArr Try.prog 9 = none := by kernel_rfl
theorem int_9 : tyInt Try.prog 9 = none := by kernel_rfl
theorem str_9 : tyStr Try.prog 9 = true := by kernel_rfl
theorem bool_9 : tyBool Try.prog 9 = false := by kernel_rfl
theorem ptr_9 : tyPtr Try.prog 9 = false := by kernel_rfl
theorem zag_9 : tyZag Try.prog 9 = false := by kernel_rfl
theorem map_9 : tyMap Try.prog 9 = none := by kernel_rfl
theorem pl_9 : tyPlaces Try.prog 9 = none := by kernel_rfl
def ty_9 := And.intro und_9 <| And.intro agg_9 <| And.intro sz_9 <| And.intro by_9 <| And.intro zero_9 <| And.intro elem_9 <| And.intro arr_9 <| And.intro int_9 <| And.intro str_9 <| And.intro bool_9 <| And.intro ptr_9 <| And.intro zag_9 <| And.intro map_9 <| pl_9
theorem und_27 : (Program.underlying Try.prog 27).isSome = true := by kernel_rfl
theorem agg_27 : tyAgg Try.prog 27 = some false := by kernel_rfl
theorem sz_27 : tySize Try.prog 27 = some 1 := by kernel_rfl
theorem by_27 : tyBytes Try.prog 27 = some 24 := by kernel_rfl
theorem zero_27 : tyZero Try.prog 27 = some [.nilsl] := by kernel_rfl
theorem elem_27 : tyElem Try.prog 27 = some 5 := by kernel_rfl
theorem arr_27 : tyArr Try.prog 27 = none := by kernel_rfl
theorem int_27 : tyInt Try.prog 27 = none := by kernel_rfl
theorem str_27 : tyStr Try.prog 27 = false := by kernel_rfl
theorem bool_27 : tyBool Try.prog 27 = false := by kernel_rfl
theorem ptr_27 : tyPtr Try.prog 27 = false := by kernel_rfl
theorem zag_27 : tyZag Try.prog 27 = false := by kernel_rfl
theorem map_27 : tyMap Try.prog 27 = none := by kernel_rfl
theorem pl_27 : tyPlaces Try.prog 27 = none := by kernel_rfl
def ty_27 := And.intro und_27 <| And.intro agg_27 <| And.intro sz_27 <| And.intro by_27 <| And.intro zero_27 <| And.intro elem_27 <| And.intro arr_27 <| And.intro int_27 <| And.intro str_27 <| And.intro bool_27 <| And.intro ptr_27 <| And.intro zag_27 <| And.intro map_27 <| pl_27
theorem und_28 : (Program.underlying Try.prog 28).isSome = true := by kernel_rfl
theorem agg_28 : tyAgg Try.prog 28 = some false := by kernel_rfl
theorem sz_28 : tySize Try.prog 28 = some 1 := by kernel_rfl
theorem by_28 : tyBytes Try.prog 28 = some 24 := by kernel_rfl
theorem zero_28 : tyZero Try.prog 28 = some [.nilsl] := by kernel_rfl
theorem elem_28 : tyElem Try.prog 28 = some 34 := by kernel_rfl
theorem arr_28 : tyArr Try.prog 28 = none := by kernel_rfl
theorem int_28 : tyInt Try.prog 28 = none := by kernel_rfl
theorem str_28 : tyStr Try.prog 28 = false := by kernel_rfl
theorem bool_28 : tyBool Try.prog 28 = false := by kernel_rfl
theorem ptr_28 : tyPtr Try.prog 28 = false := by kernel_rfl
theorem zag_28 : tyZag Try.prog 28 = false := by kernel_rfl
theorem map_28 : tyMap Try.prog 28 = none := by kernel_rfl
theorem pl_28 : tyPlaces Try.prog 28 = none := by kernel_rfl
def ty_28 := And.intro und_28 <| And.intro agg_28 <| And.intro sz_28 <| And.intro by_28 <| And.intro zero_28 <| And.intro elem_28 <| And.intro arr_28 <| And.intro int_28 <| And.intro str_28 <| And.intro bool_28 <| And.intro ptr_28 <| And.intro zag_28 <| And.intro map_28 <| pl_28
theorem und_29 : (Program.underlying Try.prog 29).isSome = true := by kernel_rfl
theorem agg_29 : tyAgg Try.prog 29 = some false := by kernel_rfl
theorem sz_29 : tySize Try.prog 29 = some 1 := by kernel_rfl
theorem by_29 : tyBytes Try.prog 29 = some 8 := by kernel_rfl
theorem zero_29 : tyZero Try.prog 29 = some [.nilptr] := by kernel_rfl
theorem elem_29 : tyElem Try.prog 29 = none := by kernel_rfl
theorem arr_29 : tyArr Try.prog 29 = none := by kernel_rfl
theorem int_29 : tyInt Try.prog 29 = none := by kernel_rfl
theorem str_29 : tyStr Try.prog 29 = false := by kernel_rfl
theorem bool_29 : tyBool Try.prog 29 = false := by kernel_rfl
theorem ptr_29 : tyPtr Try.prog 29 = true := by kernel_rfl
theorem zag_29 : tyZag Try.prog 29 = false := by kernel_rfl
theorem map_29 : tyMap Try.prog 29 = none := by kernel_rfl
theorem pl_29 : tyPlaces Try.prog 29 = none := by kernel_rfl
def ty_29 := And.intro und_29 <| And.intro agg_29 <| And.intro sz_29 <| And.intro by_29 <| And.intro zero_29 <| And.intro elem_29 <| And.intro arr_29 <| And.intro int_29 <| And.intro str_29 <| And.intro bool_29 <| And.intro ptr_29 <| And.intro zag_29 <| And.intro map_29 <| pl_29
theorem und_32 : (Program.underlying Try.prog 32).isSome = true := by kernel_rfl
theorem agg_32 : tyAgg Try.prog 32 = some true := by kernel_rfl
theorem sz_32 : tySize Try.prog 32 = some 2 := by kernel_rfl
theorem by_32 : tyBytes Try.prog 32 = some 32 := by kernel_rfl
theorem zero_32 : tyZero Try.prog 32 = some [.nilsl, .c (.int .i64 0)] := by kernel_rfl
theorem elem_32 : tyElem Try.prog 32 = none := by kernel_rfl
theorem arr_32 : tyArr Try.prog 32 = none := by kernel_rfl
theorem int_32 : tyInt Try.prog 32 = none := by kernel_rfl
theorem str_32 : tyStr Try.prog 32 = false := by kernel_rfl
theorem bool_32 : tyBool Try.prog 32 = false := by kernel_rfl
theorem ptr_32 : tyPtr Try.prog 32 = false := by kernel_rfl
theorem zag_32 : tyZag Try.prog 32 = true := by kernel_rfl
theorem map_32 : tyMap Try.prog 32 = none := by kernel_rfl
theorem fd_32_0 : tyField Try.prog 32 0 = some (0, 27, 1) := by kernel_rfl
theorem fd_32_1 : tyField Try.prog 32 1 = some (1, 3, 1) := by kernel_rfl
theorem pl_32 : tyPlaces Try.prog 32 = some [(0, 1), (1, 1)] := by kernel_rfl
def ty_32 := And.intro und_32 <| And.intro agg_32 <| And.intro sz_32 <| And.intro by_32 <| And.intro zero_32 <| And.intro elem_32 <| And.intro arr_32 <| And.intro int_32 <| And.intro str_32 <| And.intro bool_32 <| And.intro ptr_32 <| And.intro zag_32 <| And.intro map_32 <| And.intro fd_32_0 <| And.intro fd_32_1 <| pl_32
theorem und_34 : (Program.underlying Try.prog 34).isSome = true := by kernel_rfl
theorem agg_34 : tyAgg Try.prog 34 = some true := by kernel_rfl
theorem sz_34 : tySize Try.prog 34 = some 3 := by kernel_rfl
theorem by_34 : tyBytes Try.prog 34 = some 32 := by kernel_rfl
theorem zero_34 : tyZero Try.prog 34 = some [.c (.int .i64 0), .c (.int .i64 0), .c (.str [])] := by kernel_rfl
theorem elem_34 : tyElem Try.prog 34 = none := by kernel_rfl
theorem arr_34 : tyArr Try.prog 34 = none := by kernel_rfl
theorem int_34 : tyInt Try.prog 34 = none := by kernel_rfl
theorem str_34 : tyStr Try.prog 34 = false := by kernel_rfl
theorem bool_34 : tyBool Try.prog 34 = false := by kernel_rfl
theorem ptr_34 : tyPtr Try.prog 34 = false := by kernel_rfl
theorem zag_34 : tyZag Try.prog 34 = true := by kernel_rfl
theorem map_34 : tyMap Try.prog 34 = none := by kernel_rfl
theorem fd_34_0 : tyField Try.prog 34 0 = some (0, 3, 1) := by kernel_rfl
theorem fd_34_1 : tyField Try.prog 34 1 = some (1, 3, 1) := by kernel_rfl
theorem fd_34_2 : tyField Try.prog 34 2 = some (2, 9, 1) := by kernel_rfl
theorem pl_34 : tyPlaces Try.prog 34 = some [(0, 1), (1, 1), (2, 1)] := by kernel_rfl
def ty_34 := And.intro und_34 <| And.intro agg_34 <| And.intro sz_34 <| And.intro by_34 <| And.intro zero_34 <| And.intro elem_34 <| And.intro arr_34 <| And.intro int_34 <| And.intro str_34 <| And.intro bool_34 <| And.intro ptr_34 <| And.intro zag_34 <| And.intro map_34 <| And.intro fd_34_0 <| And.intro fd_34_1 <| And.intro fd_34_2 <| pl_34
theorem und_42 : (Program.underlying Try.prog 42).isSome = true := by kernel_rfl
theorem agg_42 : tyAgg Try.prog 42 = some false := by kernel_rfl
theorem sz_42 : tySize Try.prog 42 = some 1 := by kernel_rfl
theorem by_42 : tyBytes Try.prog 42 = some 8 := by kernel_rfl
theorem zero_42 : tyZero Try.prog 42 = some [.c (.int .i64 0)] := by kernel_rfl
theorem elem_42 : tyElem Try.prog 42 = none := by kernel_rfl
theorem arr_42 : tyArr Try.prog 42 = none := by kernel_rfl
theorem int_42 : tyInt Try.prog 42 = some .i64 := by kernel_rfl
theorem str_42 : tyStr Try.prog 42 = false := by kernel_rfl
theorem bool_42 : tyBool Try.prog 42 = false := by kernel_rfl
theorem ptr_42 : tyPtr Try.prog 42 = false := by kernel_rfl
theorem zag_42 : tyZag Try.prog 42 = false := by kernel_rfl
theorem map_42 : tyMap Try.prog 42 = none := by kernel_rfl
theorem pl_42 : tyPlaces Try.prog 42 = none := by kernel_rfl
def ty_42 := And.intro und_42 <| And.intro agg_42 <| And.intro sz_42 <| And.intro by_42 <| And.intro zero_42 <| And.intro elem_42 <| And.intro arr_42 <| And.intro int_42 <| And.intro str_42 <| And.intro bool_42 <| And.intro ptr_42 <| And.intro zag_42 <| And.intro map_42 <| pl_42
theorem und_69 : (Program.underlying Try.prog 69).isSome = true := by kernel_rfl
theorem agg_69 : tyAgg Try.prog 69 = some false := by kernel_rfl
theorem sz_69 : tySize Try.prog 69 = some 1 := by kernel_rfl
theorem by_69 : tyBytes Try.prog 69 = some 24 := by kernel_rfl
theorem zero_69 : tyZero Try.prog 69 = some [.nilsl] := by kernel_rfl
theorem elem_69 : tyElem Try.prog 69 = some 71 := by kernel_rfl
theorem arr_69 : tyArr Try.prog 69 = none := by kernel_rfl
theorem int_69 : tyInt Try.prog 69 = none := by kernel_rfl
theorem str_69 : tyStr Try.prog 69 = false := by kernel_rfl
theorem bool_69 : tyBool Try.prog 69 = false := by kernel_rfl
theorem ptr_69 : tyPtr Try.prog 69 = false := by kernel_rfl
theorem zag_69 : tyZag Try.prog 69 = false := by kernel_rfl
theorem map_69 : tyMap Try.prog 69 = none := by kernel_rfl
theorem pl_69 : tyPlaces Try.prog 69 = none := by kernel_rfl
def ty_69 := And.intro und_69 <| And.intro agg_69 <| And.intro sz_69 <| And.intro by_69 <| And.intro zero_69 <| And.intro elem_69 <| And.intro arr_69 <| And.intro int_69 <| And.intro str_69 <| And.intro bool_69 <| And.intro ptr_69 <| And.intro zag_69 <| And.intro map_69 <| pl_69
theorem und_71 : (Program.underlying Try.prog 71).isSome = true := by kernel_rfl
theorem agg_71 : tyAgg Try.prog 71 = some true := by kernel_rfl
theorem sz_71 : tySize Try.prog 71 = some 2 := by kernel_rfl
theorem by_71 : tyBytes Try.prog 71 = some 16 := by kernel_rfl
theorem zero_71 : tyZero Try.prog 71 = some [.c (.int .i64 0), .c (.int .i64 0)] := by kernel_rfl
theorem elem_71 : tyElem Try.prog 71 = none := by kernel_rfl
theorem arr_71 : tyArr Try.prog 71 = none := by kernel_rfl
theorem int_71 : tyInt Try.prog 71 = none := by kernel_rfl
theorem str_71 : tyStr Try.prog 71 = false := by kernel_rfl
theorem bool_71 : tyBool Try.prog 71 = false := by kernel_rfl
theorem ptr_71 : tyPtr Try.prog 71 = false := by kernel_rfl
theorem zag_71 : tyZag Try.prog 71 = true := by kernel_rfl
theorem map_71 : tyMap Try.prog 71 = none := by kernel_rfl
theorem fd_71_0 : tyField Try.prog 71 0 = some (0, 3, 1) := by kernel_rfl
theorem fd_71_1 : tyField Try.prog 71 1 = some (1, 3, 1) := by kernel_rfl
theorem pl_71 : tyPlaces Try.prog 71 = some [(0, 1), (1, 1)] := by kernel_rfl
def ty_71 := And.intro und_71 <| And.intro agg_71 <| And.intro sz_71 <| And.intro by_71 <| And.intro zero_71 <| And.intro elem_71 <| And.intro arr_71 <| And.intro int_71 <| And.intro str_71 <| And.intro bool_71 <| And.intro ptr_71 <| And.intro zag_71 <| And.intro map_71 <| And.intro fd_71_0 <| And.intro fd_71_1 <| pl_71
theorem und_72 : (Program.underlying Try.prog 72).isSome = true := by kernel_rfl
theorem agg_72 : tyAgg Try.prog 72 = some false := by kernel_rfl
theorem sz_72 : tySize Try.prog 72 = some 1 := by kernel_rfl
theorem by_72 : tyBytes Try.prog 72 = some 24 := by kernel_rfl
theorem zero_72 : tyZero Try.prog 72 = some [.nilsl] := by kernel_rfl
theorem elem_72 : tyElem Try.prog 72 = some 9 := by kernel_rfl
theorem arr_72 : tyArr Try.prog 72 = none := by kernel_rfl
theorem int_72 : tyInt Try.prog 72 = none := by kernel_rfl
theorem str_72 : tyStr Try.prog 72 = false := by kernel_rfl
theorem bool_72 : tyBool Try.prog 72 = false := by kernel_rfl
theorem ptr_72 : tyPtr Try.prog 72 = false := by kernel_rfl
theorem zag_72 : tyZag Try.prog 72 = false := by kernel_rfl
theorem map_72 : tyMap Try.prog 72 = none := by kernel_rfl
theorem pl_72 : tyPlaces Try.prog 72 = none := by kernel_rfl
def ty_72 := And.intro und_72 <| And.intro agg_72 <| And.intro sz_72 <| And.intro by_72 <| And.intro zero_72 <| And.intro elem_72 <| And.intro arr_72 <| And.intro int_72 <| And.intro str_72 <| And.intro bool_72 <| And.intro ptr_72 <| And.intro zag_72 <| And.intro map_72 <| pl_72
theorem und_96 : (Program.underlying Try.prog 96).isSome = true := by kernel_rfl
theorem agg_96 : tyAgg Try.prog 96 = some false := by kernel_rfl
theorem sz_96 : tySize Try.prog 96 = some 1 := by kernel_rfl
theorem by_96 : tyBytes Try.prog 96 = some 8 := by kernel_rfl
theorem zero_96 : tyZero Try.prog 96 = some [.c (.int .u64 0)] := by kernel_rfl
theorem elem_96 : tyElem Try.prog 96 = none := by kernel_rfl
theorem arr_96 : tyArr Try.prog 96 = none := by kernel_rfl
theorem int_96 : tyInt Try.prog 96 = some .u64 := by kernel_rfl
theorem str_96 : tyStr Try.prog 96 = false := by kernel_rfl
theorem bool_96 : tyBool Try.prog 96 = false := by kernel_rfl
theorem ptr_96 : tyPtr Try.prog 96 = false := by kernel_rfl
theorem zag_96 : tyZag Try.prog 96 = false := by kernel_rfl
theorem map_96 : tyMap Try.prog 96 = none := by kernel_rfl
theorem pl_96 : tyPlaces Try.prog 96 = none := by kernel_rfl
def ty_96 := And.intro und_96 <| And.intro agg_96 <| And.intro sz_96 <| And.intro by_96 <| And.intro zero_96 <| And.intro elem_96 <| And.intro arr_96 <| And.intro int_96 <| And.intro str_96 <| And.intro bool_96 <| And.intro ptr_96 <| And.intro zag_96 <| And.intro map_96 <| pl_96
theorem und_98 : (Program.underlying Try.prog 98).isSome = true := by kernel_rfl
theorem agg_98 : tyAgg Try.prog 98 = some false := by kernel_rfl
theorem sz_98 : tySize Try.prog 98 = some 1 := by kernel_rfl
theorem by_98 : tyBytes Try.prog 98 = some 8 := by kernel_rfl
theorem zero_98 : tyZero Try.prog 98 = some [.nilptr] := by kernel_rfl
theorem elem_98 : tyElem Try.prog 98 = none := by kernel_rfl
theorem arr_98 : tyArr Try.prog 98 = none := by kernel_rfl
theorem int_98 : tyInt Try.prog 98 = none := by kernel_rfl
theorem str_98 : tyStr Try.prog 98 = false := by kernel_rfl
theorem bool_98 : tyBool Try.prog 98 = false := by kernel_rfl
theorem ptr_98 : tyPtr Try.prog 98 = true := by kernel_rfl
theorem zag_98 : tyZag Try.prog 98 = false := by kernel_rfl
theorem map_98 : tyMap Try.prog 98 = none := by kernel_rfl
theorem pl_98 : tyPlaces Try.prog 98 = none := by kernel_rfl
def ty_98 := And.intro und_98 <| And.intro agg_98 <| And.intro sz_98 <| And.intro by_98 <| And.intro zero_98 <| And.intro elem_98 <| And.intro arr_98 <| And.intro int_98 <| And.intro str_98 <| And.intro bool_98 <| And.intro ptr_98 <| And.intro zag_98 <| And.intro map_98 <| pl_98
theorem und_105 : (Program.underlying Try.prog 105).isSome = true := by kernel_rfl
theorem agg_105 : tyAgg Try.prog 105 = some true := by kernel_rfl
theorem sz_105 : tySize Try.prog 105 = some 3 := by kernel_rfl
theorem by_105 : tyBytes Try.prog 105 = some 40 := by kernel_rfl
theorem zero_105 : tyZero Try.prog 105 = some [.nilsl, .c (.int .i64 0), .c (.bool false)] := by kernel_rfl
theorem elem_105 : tyElem Try.prog 105 = none := by kernel_rfl
theorem arr_105 : tyArr Try.prog 105 = none := by kernel_rfl
theorem int_105 : tyInt Try.prog 105 = none := by kernel_rfl
theorem str_105 : tyStr Try.prog 105 = false := by kernel_rfl
theorem bool_105 : tyBool Try.prog 105 = false := by kernel_rfl
theorem ptr_105 : tyPtr Try.prog 105 = false := by kernel_rfl
theorem zag_105 : tyZag Try.prog 105 = true := by kernel_rfl
theorem map_105 : tyMap Try.prog 105 = none := by kernel_rfl
theorem fd_105_0 : tyField Try.prog 105 0 = some (0, 27, 1) := by kernel_rfl
theorem fd_105_1 : tyField Try.prog 105 1 = some (1, 42, 1) := by kernel_rfl
theorem fd_105_2 : tyField Try.prog 105 2 = some (2, 4, 1) := by kernel_rfl
theorem pl_105 : tyPlaces Try.prog 105 = some [(0, 1), (1, 1), (2, 1)] := by kernel_rfl
def ty_105 := And.intro und_105 <| And.intro agg_105 <| And.intro sz_105 <| And.intro by_105 <| And.intro zero_105 <| And.intro elem_105 <| And.intro arr_105 <| And.intro int_105 <| And.intro str_105 <| And.intro bool_105 <| And.intro ptr_105 <| And.intro zag_105 <| And.intro map_105 <| And.intro fd_105_0 <| And.intro fd_105_1 <| And.intro fd_105_2 <| pl_105
theorem und_127 : (Program.underlying Try.prog 127).isSome = true := by kernel_rfl
theorem agg_127 : tyAgg Try.prog 127 = some true := by kernel_rfl
theorem sz_127 : tySize Try.prog 127 = some 3 := by kernel_rfl
theorem by_127 : tyBytes Try.prog 127 = some 40 := by kernel_rfl
theorem zero_127 : tyZero Try.prog 127 = some [.nilsl, .c (.int .i64 0), .c (.bool false)] := by kernel_rfl
theorem elem_127 : tyElem Try.prog 127 = none := by kernel_rfl
theorem arr_127 : tyArr Try.prog 127 = none := by kernel_rfl
theorem int_127 : tyInt Try.prog 127 = none := by kernel_rfl
theorem str_127 : tyStr Try.prog 127 = false := by kernel_rfl
theorem bool_127 : tyBool Try.prog 127 = false := by kernel_rfl
theorem ptr_127 : tyPtr Try.prog 127 = false := by kernel_rfl
theorem zag_127 : tyZag Try.prog 127 = true := by kernel_rfl
theorem map_127 : tyMap Try.prog 127 = none := by kernel_rfl
theorem fd_127_0 : tyField Try.prog 127 0 = some (0, 27, 1) := by kernel_rfl
theorem fd_127_1 : tyField Try.prog 127 1 = some (1, 42, 1) := by kernel_rfl
theorem fd_127_2 : tyField Try.prog 127 2 = some (2, 4, 1) := by kernel_rfl
theorem pl_127 : tyPlaces Try.prog 127 = some [(0, 1), (1, 1), (2, 1)] := by kernel_rfl
def ty_127 := And.intro und_127 <| And.intro agg_127 <| And.intro sz_127 <| And.intro by_127 <| And.intro zero_127 <| And.intro elem_127 <| And.intro arr_127 <| And.intro int_127 <| And.intro str_127 <| And.intro bool_127 <| And.intro ptr_127 <| And.intro zag_127 <| And.intro map_127 <| And.intro fd_127_0 <| And.intro fd_127_1 <| And.intro fd_127_2 <| pl_127
theorem und_129 : (Program.underlying Try.prog 129).isSome = true := by kernel_rfl
theorem agg_129 : tyAgg Try.prog 129 = some false := by kernel_rfl
theorem sz_129 : tySize Try.prog 129 = some 1 := by kernel_rfl
theorem by_129 : tyBytes Try.prog 129 = some 8 := by kernel_rfl
theorem zero_129 : tyZero Try.prog 129 = some [.c (.int .u64 0)] := by kernel_rfl
theorem elem_129 : tyElem Try.prog 129 = none := by kernel_rfl
theorem arr_129 : tyArr Try.prog 129 = none := by kernel_rfl
theorem int_129 : tyInt Try.prog 129 = some .u64 := by kernel_rfl
theorem str_129 : tyStr Try.prog 129 = false := by kernel_rfl
theorem bool_129 : tyBool Try.prog 129 = false := by kernel_rfl
theorem ptr_129 : tyPtr Try.prog 129 = false := by kernel_rfl
theorem zag_129 : tyZag Try.prog 129 = false := by kernel_rfl
theorem map_129 : tyMap Try.prog 129 = none := by kernel_rfl
theorem pl_129 : tyPlaces Try.prog 129 = none := by kernel_rfl
def ty_129 := And.intro und_129 <| And.intro agg_129 <| And.intro sz_129 <| And.intro by_129 <| And.intro zero_129 <| And.intro elem_129 <| And.intro arr_129 <| And.intro int_129 <| And.intro str_129 <| And.intro bool_129 <| And.intro ptr_129 <| And.intro zag_129 <| And.intro map_129 <| pl_129
theorem und_138 : (Program.underlying Try.prog 138).isSome = true := by kernel_rfl
theorem agg_138 : tyAgg Try.prog 138 = some true := by kernel_rfl
theorem sz_138 : tySize Try.prog 138 = some 3 := by kernel_rfl
theorem by_138 : tyBytes Try.prog 138 = some 24 := by kernel_rfl
theorem zero_138 : tyZero Try.prog 138 = some [.c (.int .i64 0), .c (.int .i64 0), .c (.int .i64 0)] := by kernel_rfl
theorem elem_138 : tyElem Try.prog 138 = none := by kernel_rfl
theorem arr_138 : tyArr Try.prog 138 = some (3, 3) := by kernel_rfl
theorem int_138 : tyInt Try.prog 138 = none := by kernel_rfl
theorem str_138 : tyStr Try.prog 138 = false := by kernel_rfl
theorem bool_138 : tyBool Try.prog 138 = false := by kernel_rfl
theorem ptr_138 : tyPtr Try.prog 138 = false := by kernel_rfl
theorem zag_138 : tyZag Try.prog 138 = true := by kernel_rfl
theorem map_138 : tyMap Try.prog 138 = none := by kernel_rfl
theorem pl_138 : tyPlaces Try.prog 138 = none := by kernel_rfl
def ty_138 := And.intro und_138 <| And.intro agg_138 <| And.intro sz_138 <| And.intro by_138 <| And.intro zero_138 <| And.intro elem_138 <| And.intro arr_138 <| And.intro int_138 <| And.intro str_138 <| And.intro bool_138 <| And.intro ptr_138 <| And.intro zag_138 <| And.intro map_138 <| pl_138
theorem und_153 : (Program.underlying Try.prog 153).isSome = true := by kernel_rfl
theorem agg_153 : tyAgg Try.prog 153 = some false := by kernel_rfl
theorem sz_153 : tySize Try.prog 153 = some 1 := by kernel_rfl
theorem by_153 : tyBytes Try.prog 153 = some 24 := by kernel_rfl
theorem zero_153 : tyZero Try.prog 153 = some [.nilsl] := by kernel_rfl
theorem elem_153 : tyElem Try.prog 153 = some 27 := by kernel_rfl
theorem arr_153 : tyArr Try.prog 153 = none := by kernel_rfl
theorem int_153 : tyInt Try.prog 153 = none := by kernel_rfl
theorem str_153 : tyStr Try.prog 153 = false := by kernel_rfl
theorem bool_153 : tyBool Try.prog 153 = false := by kernel_rfl
theorem ptr_153 : tyPtr Try.prog 153 = false := by kernel_rfl
theorem zag_153 : tyZag Try.prog 153 = false := by kernel_rfl
theorem map_153 : tyMap Try.prog 153 = none := by kernel_rfl
theorem pl_153 : tyPlaces Try.prog 153 = none := by kernel_rfl
def ty_153 := And.intro und_153 <| And.intro agg_153 <| And.intro sz_153 <| And.intro by_153 <| And.intro zero_153 <| And.intro elem_153 <| And.intro arr_153 <| And.intro int_153 <| And.intro str_153 <| And.intro bool_153 <| And.intro ptr_153 <| And.intro zag_153 <| And.intro map_153 <| pl_153
theorem und_164 : (Program.underlying Try.prog 164).isSome = true := by kernel_rfl
theorem agg_164 : tyAgg Try.prog 164 = some false := by kernel_rfl
theorem sz_164 : tySize Try.prog 164 = some 1 := by kernel_rfl
theorem by_164 : tyBytes Try.prog 164 = some 4 := by kernel_rfl
theorem zero_164 : tyZero Try.prog 164 = some [.c (.int .u32 0)] := by kernel_rfl
theorem elem_164 : tyElem Try.prog 164 = none := by kernel_rfl
theorem arr_164 : tyArr Try.prog 164 = none := by kernel_rfl
theorem int_164 : tyInt Try.prog 164 = some .u32 := by kernel_rfl
theorem str_164 : tyStr Try.prog 164 = false := by kernel_rfl
theorem bool_164 : tyBool Try.prog 164 = false := by kernel_rfl
theorem ptr_164 : tyPtr Try.prog 164 = false := by kernel_rfl
theorem zag_164 : tyZag Try.prog 164 = false := by kernel_rfl
theorem map_164 : tyMap Try.prog 164 = none := by kernel_rfl
theorem pl_164 : tyPlaces Try.prog 164 = none := by kernel_rfl
def ty_164 := And.intro und_164 <| And.intro agg_164 <| And.intro sz_164 <| And.intro by_164 <| And.intro zero_164 <| And.intro elem_164 <| And.intro arr_164 <| And.intro int_164 <| And.intro str_164 <| And.intro bool_164 <| And.intro ptr_164 <| And.intro zag_164 <| And.intro map_164 <| pl_164
theorem und_179 : (Program.underlying Try.prog 179).isSome = true := by kernel_rfl
theorem agg_179 : tyAgg Try.prog 179 = some true := by kernel_rfl
theorem sz_179 : tySize Try.prog 179 = some 8 := by kernel_rfl
theorem by_179 : tyBytes Try.prog 179 = some 32 := by kernel_rfl
theorem zero_179 : tyZero Try.prog 179 = some [.c (.int .u32 0), .c (.int .u32 0), .c (.int .u32 0), .c (.int .u32 0), .c (.int .u32 0), .c (.int .u32 0), .c (.int .u32 0), .c (.int .u32 0)] := by kernel_rfl
theorem elem_179 : tyElem Try.prog 179 = none := by kernel_rfl
theorem arr_179 : tyArr Try.prog 179 = some (8, 164) := by kernel_rfl
theorem int_179 : tyInt Try.prog 179 = none := by kernel_rfl
theorem str_179 : tyStr Try.prog 179 = false := by kernel_rfl
theorem bool_179 : tyBool Try.prog 179 = false := by kernel_rfl
theorem ptr_179 : tyPtr Try.prog 179 = false := by kernel_rfl
theorem zag_179 : tyZag Try.prog 179 = true := by kernel_rfl
theorem map_179 : tyMap Try.prog 179 = none := by kernel_rfl
theorem pl_179 : tyPlaces Try.prog 179 = none := by kernel_rfl
def ty_179 := And.intro und_179 <| And.intro agg_179 <| And.intro sz_179 <| And.intro by_179 <| And.intro zero_179 <| And.intro elem_179 <| And.intro arr_179 <| And.intro int_179 <| And.intro str_179 <| And.intro bool_179 <| And.intro ptr_179 <| And.intro zag_179 <| And.intro map_179 <| pl_179
theorem und_181 : (Program.underlying Try.prog 181).isSome = true := by kernel_rfl
theorem agg_181 : tyAgg Try.prog 181 = some true := by kernel_rfl
theorem sz_181 : tySize Try.prog 181 = some 64 := by kernel_rfl
theorem by_181 : tyBytes Try.prog 181 = some 256 := by kernel_rfl
theorem zero_181 : tyZero Try.prog 181 = some (zrep 64 (.c (.int .u32 0))) := by kernel_rfl
theorem elem_181 : tyElem Try.prog 181 = none := by kernel_rfl
theorem arr_181 : tyArr Try.prog 181 = some (64, 164) := by kernel_rfl
theorem int_181 : tyInt Try.prog 181 = none := by kernel_rfl
theorem str_181 : tyStr Try.prog 181 = false := by kernel_rfl
theorem bool_181 : tyBool Try.prog 181 = false := by kernel_rfl
theorem ptr_181 : tyPtr Try.prog 181 = false := by kernel_rfl
theorem zag_181 : tyZag Try.prog 181 = true := by kernel_rfl
theorem map_181 : tyMap Try.prog 181 = none := by kernel_rfl
theorem pl_181 : tyPlaces Try.prog 181 = none := by kernel_rfl
def ty_181 := And.intro und_181 <| And.intro agg_181 <| And.intro sz_181 <| And.intro by_181 <| And.intro zero_181 <| And.intro elem_181 <| And.intro arr_181 <| And.intro int_181 <| And.intro str_181 <| And.intro bool_181 <| And.intro ptr_181 <| And.intro zag_181 <| And.intro map_181 <| pl_181
theorem und_184 : (Program.underlying Try.prog 184).isSome = true := by kernel_rfl
theorem agg_184 : tyAgg Try.prog 184 = some false := by kernel_rfl
theorem sz_184 : tySize Try.prog 184 = some 1 := by kernel_rfl
theorem by_184 : tyBytes Try.prog 184 = some 8 := by kernel_rfl
theorem zero_184 : tyZero Try.prog 184 = some [.nilptr] := by kernel_rfl
theorem elem_184 : tyElem Try.prog 184 = none := by kernel_rfl
theorem arr_184 : tyArr Try.prog 184 = none := by kernel_rfl
theorem int_184 : tyInt Try.prog 184 = none := by kernel_rfl
theorem str_184 : tyStr Try.prog 184 = false := by kernel_rfl
theorem bool_184 : tyBool Try.prog 184 = false := by kernel_rfl
theorem ptr_184 : tyPtr Try.prog 184 = true := by kernel_rfl
theorem zag_184 : tyZag Try.prog 184 = false := by kernel_rfl
theorem map_184 : tyMap Try.prog 184 = none := by kernel_rfl
theorem pl_184 : tyPlaces Try.prog 184 = none := by kernel_rfl
def ty_184 := And.intro und_184 <| And.intro agg_184 <| And.intro sz_184 <| And.intro by_184 <| And.intro zero_184 <| And.intro elem_184 <| And.intro arr_184 <| And.intro int_184 <| And.intro str_184 <| And.intro bool_184 <| And.intro ptr_184 <| And.intro zag_184 <| And.intro map_184 <| pl_184
theorem und_186 : (Program.underlying Try.prog 186).isSome = true := by kernel_rfl
theorem agg_186 : tyAgg Try.prog 186 = some false := by kernel_rfl
theorem sz_186 : tySize Try.prog 186 = some 1 := by kernel_rfl
theorem by_186 : tyBytes Try.prog 186 = some 24 := by kernel_rfl
theorem zero_186 : tyZero Try.prog 186 = some [.nilsl] := by kernel_rfl
theorem elem_186 : tyElem Try.prog 186 = some 164 := by kernel_rfl
theorem arr_186 : tyArr Try.prog 186 = none := by kernel_rfl
theorem int_186 : tyInt Try.prog 186 = none := by kernel_rfl
theorem str_186 : tyStr Try.prog 186 = false := by kernel_rfl
theorem bool_186 : tyBool Try.prog 186 = false := by kernel_rfl
theorem ptr_186 : tyPtr Try.prog 186 = false := by kernel_rfl
theorem zag_186 : tyZag Try.prog 186 = false := by kernel_rfl
theorem map_186 : tyMap Try.prog 186 = none := by kernel_rfl
theorem pl_186 : tyPlaces Try.prog 186 = none := by kernel_rfl
def ty_186 := And.intro und_186 <| And.intro agg_186 <| And.intro sz_186 <| And.intro by_186 <| And.intro zero_186 <| And.intro elem_186 <| And.intro arr_186 <| And.intro int_186 <| And.intro str_186 <| And.intro bool_186 <| And.intro ptr_186 <| And.intro zag_186 <| And.intro map_186 <| pl_186
theorem nt_74 : Try.f74.ntmps = 13 := by kernel_rfl
theorem rs_74 : Try.f74.results.toList = [] := by kernel_rfl
theorem nt_50 : Try.f50.ntmps = 8 := by kernel_rfl
theorem rs_50 : Try.f50.results.toList = [.tmp 2] := by kernel_rfl
theorem nt_48 : Try.f48.ntmps = 40 := by kernel_rfl
theorem rs_48 : Try.f48.results.toList = [] := by kernel_rfl
theorem nt_47 : Try.f47.ntmps = 3 := by kernel_rfl
theorem rs_47 : Try.f47.results.toList = [.tmp 0] := by kernel_rfl
theorem nt_49 : Try.f49.ntmps = 36 := by kernel_rfl
theorem rs_49 : Try.f49.results.toList = [.tmp 2, .tmp 3] := by kernel_rfl
theorem nt_138 : Try.f138.ntmps = 17 := by kernel_rfl
theorem rs_138 : Try.f138.results.toList = [.tmp 4] := by kernel_rfl
theorem nt_135 : Try.f135.ntmps = 9 := by kernel_rfl
theorem rs_135 : Try.f135.results.toList = [.tmp 4] := by kernel_rfl
theorem nt_132 : Try.f132.ntmps = 36 := by kernel_rfl
theorem rs_132 : Try.f132.results.toList = [.tmp 2] := by kernel_rfl
theorem nt_120 : Try.f120.ntmps = 5 := by kernel_rfl
theorem rs_120 : Try.f120.results.toList = [.tmp 2] := by kernel_rfl
theorem nt_137 : Try.f137.ntmps = 33 := by kernel_rfl
theorem rs_137 : Try.f137.results.toList = [.tmp 4] := by kernel_rfl
theorem nt_131 : Try.f131.ntmps = 32 := by kernel_rfl
theorem rs_131 : Try.f131.results.toList = [.tmp 2] := by kernel_rfl
theorem nt_128 : Try.f128.ntmps = 2 := by kernel_rfl
theorem rs_128 : Try.f128.results.toList = [.cell 0 181] := by kernel_rfl
theorem nt_127 : Try.f127.ntmps = 2 := by kernel_rfl
theorem rs_127 : Try.f127.results.toList = [.cell 0 179] := by kernel_rfl
theorem nt_134 : Try.f134.ntmps = 64 := by kernel_rfl
theorem rs_134 : Try.f134.results.toList = [.cell 2 181] := by kernel_rfl
theorem nt_130 : Try.f130.ntmps = 119 := by kernel_rfl
theorem rs_130 : Try.f130.results.toList = [.cell 6 179] := by kernel_rfl
theorem nt_129 : Try.f129.ntmps = 19 := by kernel_rfl
theorem rs_129 : Try.f129.results.toList = [.tmp 2] := by kernel_rfl
theorem nt_119 : Try.f119.ntmps = 21 := by kernel_rfl
theorem rs_119 : Try.f119.results.toList = [.tmp 2] := by kernel_rfl
theorem nt_102 : Try.f102.ntmps = 7 := by kernel_rfl
theorem rs_102 : Try.f102.results.toList = [.tmp 2] := by kernel_rfl
theorem nt_86 : Try.f86.ntmps = 6 := by kernel_rfl
theorem rs_86 : Try.f86.results.toList = [.tmp 2] := by kernel_rfl
theorem nt_7 : Try.f7.ntmps = 53 := by kernel_rfl
theorem rs_7 : Try.f7.results.toList = [.tmp 6] := by kernel_rfl
theorem nt_34 : Try.f34.ntmps = 16 := by kernel_rfl
theorem rs_34 : Try.f34.results.toList = [.tmp 0] := by kernel_rfl
theorem nt_67 : Try.f67.ntmps = 32 := by kernel_rfl
theorem rs_67 : Try.f67.results.toList = [.tmp 4] := by kernel_rfl
theorem nt_65 : Try.f65.ntmps = 21 := by kernel_rfl
theorem rs_65 : Try.f65.results.toList = [.tmp 2] := by kernel_rfl
theorem nt_38 : Try.f38.ntmps = 6 := by kernel_rfl
theorem rs_38 : Try.f38.results.toList = [.tmp 2] := by kernel_rfl
theorem nt_35 : Try.f35.ntmps = 12 := by kernel_rfl
theorem rs_35 : Try.f35.results.toList = [.tmp 4, .tmp 5] := by kernel_rfl
theorem nt_37 : Try.f37.ntmps = 21 := by kernel_rfl
theorem rs_37 : Try.f37.results.toList = [.tmp 8] := by kernel_rfl
theorem nt_101 : Try.f101.ntmps = 25 := by kernel_rfl
theorem rs_101 : Try.f101.results.toList = [.tmp 2] := by kernel_rfl
theorem nt_68 : Try.f68.ntmps = 15 := by kernel_rfl
theorem rs_68 : Try.f68.results.toList = [.tmp 2] := by kernel_rfl
theorem nt_64 : Try.f64.ntmps = 42 := by kernel_rfl
theorem rs_64 : Try.f64.results.toList = [.tmp 4, .tmp 5] := by kernel_rfl
theorem nt_66 : Try.f66.ntmps = 36 := by kernel_rfl
theorem rs_66 : Try.f66.results.toList = [.tmp 6] := by kernel_rfl
theorem nt_36 : Try.f36.ntmps = 26 := by kernel_rfl
theorem rs_36 : Try.f36.results.toList = [.tmp 4] := by kernel_rfl
theorem nt_4 : Try.f4.ntmps = 103 := by kernel_rfl
theorem rs_4 : Try.f4.results.toList = [.tmp 4] := by kernel_rfl
theorem nt_12 : Try.f12.ntmps = 20 := by kernel_rfl
theorem rs_12 : Try.f12.results.toList = [.tmp 0] := by kernel_rfl
theorem nt_18 : Try.f18.ntmps = 4 := by kernel_rfl
theorem rs_18 : Try.f18.results.toList = [.tmp 2] := by kernel_rfl
theorem nt_13 : Try.f13.ntmps = 7 := by kernel_rfl
theorem rs_13 : Try.f13.results.toList = [.tmp 2] := by kernel_rfl
theorem nt_14 : Try.f14.ntmps = 33 := by kernel_rfl
theorem rs_14 : Try.f14.results.toList = [.tmp 4, .cell 5 32] := by kernel_rfl
theorem nt_16 : Try.f16.ntmps = 47 := by kernel_rfl
theorem rs_16 : Try.f16.results.toList = [.tmp 4, .cell 5 32] := by kernel_rfl
theorem nt_15 : Try.f15.ntmps = 34 := by kernel_rfl
theorem rs_15 : Try.f15.results.toList = [.tmp 4] := by kernel_rfl
theorem nt_17 : Try.f17.ntmps = 37 := by kernel_rfl
theorem rs_17 : Try.f17.results.toList = [.tmp 4] := by kernel_rfl
theorem nt_19 : Try.f19.ntmps = 16 := by kernel_rfl
theorem rs_19 : Try.f19.results.toList = [.tmp 2] := by kernel_rfl
theorem nt_20 : Try.f20.ntmps = 11 := by kernel_rfl
theorem rs_20 : Try.f20.results.toList = [.tmp 2] := by kernel_rfl
theorem nt_52 : Try.f52.ntmps = 18 := by kernel_rfl
theorem rs_52 : Try.f52.results.toList = [.tmp 2] := by kernel_rfl
theorem nt_54 : Try.f54.ntmps = 32 := by kernel_rfl
theorem rs_54 : Try.f54.results.toList = [.tmp 4] := by kernel_rfl
theorem nt_55 : Try.f55.ntmps = 11 := by kernel_rfl
theorem rs_55 : Try.f55.results.toList = [] := by kernel_rfl
theorem nt_53 : Try.f53.ntmps = 21 := by kernel_rfl
theorem rs_53 : Try.f53.results.toList = [.tmp 2] := by kernel_rfl
theorem nt_51 : Try.f51.ntmps = 22 := by kernel_rfl
theorem rs_51 : Try.f51.results.toList = [.tmp 2] := by kernel_rfl
theorem mixed : Try.prog.follows .mixedOrders = true := by kernel_rfl

def faultC : Contract := fun args objs => match args, objs with
  | [.ptr n 0, .c (.int .i64 e')], [[.own 1 rows, .c (.int .i64 e), .c (.bool made)]] =>
    if n = inObj 0 then some ⟨[], [[.own 1 rows, .c (.int .i64 (if e = 0 then e' else e)), .c (.bool made)]]⟩ else none
  | _, _ => none

theorem fault_sound : SoundC Try.prog 74 faultC := by
  refine sound_fn Try.func74 (by kernel_rfl) rfl rfl ?_
  intro args objs r hr
  unfold faultC at hr
  split at hr
  · rename_i n e' rows e made
    split at hr
    · rename_i hn
      subst hn
      cases hr
      refine ⟨rfl, by show 2 ≤ _; decide, fun E hN hns hF => ?_⟩
      refine vc_sound none0_sound mixed _ _ _ ?_
      have hN := hN.trans nt_74
      simp only [runA, runB, runC, runD, runE, runF, fieldE, storeE, binE, ↓reduceIte, Nat.reduceLT, Nat.reduceLeDiff, Nat.reduceEqDiff, Nat.reduceAdd, Nat.reduceMul, Nat.reduceSub, reduceCtorEq, putAt, unE, Nat.reduceBEq, convE, buildE, List.replicate, Int.reduceLT, Int.reduceLE, Int.reduceToNat, mkE, mapSetE, hN, hF, ty_4, ty_27, ty_42, ty_127]
      refine branch_intro (fun hc => ?_) (fun hc => ?_)
      all_goals
        simp only [beq_iff_eq, beq_eq_false_iff_ne, ne_eq] at hc
        simp only [runB, finC, finD, Option.isSome_some, Option.isSome_none, ↓reduceIte, Nat.reduceEqDiff, Nat.reduceAdd, Nat.reduceMul, forall_eq_or_imp, forall_eq, implies_true, Nat.reduceBEq, reduceCtorEq, false_implies, List.zip_cons_cons, List.zip_nil_left, List.zip_nil_right, Nat.reduceLeDiff, List.forall_mem_nil, rs_74, hc]
    · cases hr
  · cases hr


/-- A number's octets. -/
def putB (n : Int) (size : Int) : List UInt8 :=
  (List.range (min (max size 0) 8).toNat).map fun (i : Nat) => UInt8.ofNat ((IntKind.u64.wrap n).toNat / 256 ^ ((min (max size 0) 8).toNat - 1 - i) % 256)

def putC : Contract := fun args objs => match args, objs with
  | [.c (.int .i64 n), .c (.int .i64 size)], [] => if 0 ≤ size ∧ size ≤ 8 then some ⟨[.fresh 1 (bytes (putB n size))], []⟩ else none
  | _, _ => none

def cloneC : Contract := fun args objs => match args, objs with
  | [.c (.sl rows)], [] => if rowsOK 1 rows ∧ rows.length ≤ 140737488355328 then some ⟨[.fresh 1 rows], []⟩ else none
  | _, _ => none

theorem clone_sound : SoundC Try.prog 50 cloneC := by
  refine sound_fn Try.func50 (by kernel_rfl) rfl rfl ?_
  intro args objs r hr
  unfold cloneC at hr
  split at hr
  · rename_i rows
    split at hr
    · rename_i hc
      cases hr
      refine ⟨rfl, by show 1 ≤ _; decide, fun E hN hns hF => ?_⟩
      refine vc_sound none0_sound mixed _ _ _ ?_
      have hN := hN.trans nt_50
      have hz : rowsOK 1 [] := fun _ h => by cases h
      cases rows with
      | nil =>
        simp only [runA, runB, runC, runD, runE, runF, fieldE, storeE, binE, ↓reduceIte, Nat.reduceLT, Nat.reduceLeDiff, Nat.reduceEqDiff, Nat.reduceAdd, Nat.reduceMul, Nat.reduceSub, reduceCtorEq, putAt, unE, Nat.reduceBEq, convE, buildE, List.replicate, Int.reduceLT, Int.reduceLE, Int.reduceToNat, mkE, mapSetE, hN, hF, ty_5, ty_27, notIf, isEq, hz]
        constructor
        all_goals simp only [runB, finC, finD, Option.isSome_some, Option.isSome_none, ↓reduceIte, Nat.reduceEqDiff, Nat.reduceAdd, Nat.reduceMul, forall_eq_or_imp, forall_eq, implies_true, Nat.reduceBEq, reduceCtorEq, false_implies, List.zip_cons_cons, List.zip_nil_left, List.zip_nil_right, Nat.reduceLeDiff, List.forall_mem_nil, rs_50]
      | cons x rows =>
        obtain ⟨h1, h2⟩ := hc
        rw [List.length_cons] at h2
        simp only [runA, runB, runC, runD, runE, runF, fieldE, storeE, binE, ↓reduceIte, Nat.reduceLT, Nat.reduceLeDiff, Nat.reduceEqDiff, Nat.reduceAdd, Nat.reduceMul, Nat.reduceSub, reduceCtorEq, putAt, unE, Nat.reduceBEq, convE, buildE, List.replicate, Int.reduceLT, Int.reduceLE, Int.reduceToNat, mkE, mapSetE, hN, hF, ty_5, ty_27, notIf, isEq, h1, h2]
        simp only [runB, finC, finD, Option.isSome_some, Option.isSome_none, ↓reduceIte, Nat.reduceEqDiff, Nat.reduceAdd, Nat.reduceMul, forall_eq_or_imp, forall_eq, implies_true, Nat.reduceBEq, reduceCtorEq, false_implies, List.zip_cons_cons, List.zip_nil_left, List.zip_nil_right, Nat.reduceLeDiff, List.forall_mem_nil, rs_50]
    · cases hr
  · cases hr

theorem bytes_length (l : List UInt8) : (bytes l).length = l.length := by simp [bytes]
theorem bytes_append (a b : List UInt8) : bytes (a ++ b) = bytes a ++ bytes b := by simp [bytes]
theorem rowsOK_bytes (l : List UInt8) : rowsOK 1 (bytes l) := by
  intro r hr
  simp only [bytes, List.mem_map] at hr
  obtain ⟨b, _, rfl⟩ := hr
  rfl
/-- Rows that are octets, as octets. -/
def asB : List (List PC) → Option (List UInt8)
  | [] => some []
  | [.int .u8 n] :: rows => if 0 ≤ n ∧ n < 256 then match asB rows with | some l => some (UInt8.ofNat n.toNat :: l) | none => none else none
  | _ => none
theorem asB_bytes (l : List UInt8) : asB (bytes l) = some l := by
  induction l with
  | nil => rfl
  | cons b l ih =>
    unfold bytes at ih ⊢
    simp only [List.map_cons, asB, ih]
    have : (b.toNat : Int) < 256 := by have := b.toNat_lt; omega
    simp [this]
theorem asB_inv : ∀ {rows : List (List PC)} {l : List UInt8}, asB rows = some l → rows = bytes l
  | [], l, h => by simp only [asB, Option.some.injEq] at h; subst h; rfl
  | [.int .u8 n] :: rows, l, h => by
    simp only [asB] at h
    split at h
    · rename_i hn
      split at h
      · rename_i l' hl
        cases h
        rw [asB_inv hl]
        simp only [bytes, List.map_cons, List.cons.injEq, PC.int.injEq, true_and, and_true]
        have h1 : n.toNat < 256 := by omega
        rw [UInt8.toNat_ofNat_of_lt' h1]
        omega
      · cases h
    · cases h
theorem bytes_app (a b : List UInt8) : bytes a ++ bytes b = bytes (a ++ b) := (bytes_append a b).symm

/-- A writer's cells. -/
abbrev wOV (b : List UInt8) (e : Int) (made : Bool) : List OV := [.own 1 (bytes b), .c (.int .i64 e), .c (.bool made)]
structure WS where
  b : List UInt8
  e : Int
  deriving DecidableEq
def wNum (w : WS) (n : Int) : WS := if n < 0 ∨ 1099511627776 < n then ⟨w.b, if w.e = 0 then 4 else w.e⟩ else if w.b.length ≤ 16384 then ⟨w.b ++ putB n 6, w.e⟩ else w
def numC : Contract := fun args objs => match args, objs with
  | [.nilptr, .c (.int .i64 n)], [] => some ⟨[], []⟩
  | [.ptr p 0, .c (.int .i64 n)], [[.own 1 rows, .c (.int .i64 e), .c (.bool made)]] => match asB rows with
    | some b => if p = inObj 0 ∧ b.length ≤ 100000 then
        if made then some ⟨[], [wOV (wNum ⟨b, e⟩ n).b (wNum ⟨b, e⟩ n).e true]⟩ else some ⟨[], [wOV b e false]⟩ else none
    | none => none
  | _, _ => none

variable {Γ : FuncId → Contract}
theorem putB_length (n size : Int) : (putB n size).length = (min (max size 0) 8).toNat := by simp [putB]

set_option maxHeartbeats 4000000 in
theorem num_sound (hΓ : SoundG Try.prog Γ) (h53 : Γ 75 = putC) (h52 : Γ 74 = faultC) : SoundC Try.prog 48 numC := by
  refine sound_fn Try.func48 (by kernel_rfl) rfl rfl ?_
  intro args objs r hr
  unfold numC at hr
  split at hr
  · cases hr
    refine ⟨rfl, by show 2 ≤ _; decide, fun E hN hns hF => ?_⟩
    refine vc_sound hΓ mixed _ _ _ ?_
    have hN := hN.trans nt_48
    simp only [runA, runB, runC, runD, runE, runF, fieldE, storeE, binE, ↓reduceIte, Nat.reduceLT, Nat.reduceLeDiff, Nat.reduceEqDiff, Nat.reduceAdd, Nat.reduceMul, Nat.reduceSub, reduceCtorEq, putAt, unE, Nat.reduceBEq, convE, buildE, List.replicate, Int.reduceLT, Int.reduceLE, Int.reduceToNat, mkE, mapSetE, hN, hF, ty_3, ty_4, ty_5, ty_27, ty_42, ty_98, ty_127, notIf, isEq]
    simp only [runB, finC, finD, Option.isSome_some, Option.isSome_none, ↓reduceIte, Nat.reduceEqDiff, Nat.reduceAdd, Nat.reduceMul, forall_eq_or_imp, forall_eq, implies_true, Nat.reduceBEq, reduceCtorEq, false_implies, List.zip_cons_cons, List.zip_nil_left, List.zip_nil_right, Nat.reduceLeDiff, List.forall_mem_nil, rs_48]
  · split at hr
    · rename_i n rows e made _ b hb
      split at hr
      · rename_i hc
        obtain ⟨rfl, hlen⟩ := hc
        obtain rfl := asB_inv hb
        split at hr
        · rename_i hm
          cases hr
          refine ⟨rfl, by show 2 ≤ _; decide, fun E hN hns hF => ?_⟩
          refine vc_sound hΓ mixed _ _ _ ?_
          have hN := hN.trans nt_48
          subst hm
          have hz := rowsOK_bytes (putB n 6)
          have hL : b.length + (putB n 6).length ≤ 140737488355328 := by rw [putB_length]; omega
          have hL0 : (putB n 6).length ≤ 140737488355328 := by rw [putB_length]; omega
          cases h1 : decide (n < 0) <;> cases h2 : decide (n > 1099511627776) <;> cases h3 : decide ((b.length : Int) ≤ 16384) <;> cases h4 : (e == 0)
          all_goals
            simp only [runA, runB, runC, runD, runE, runF, fieldE, storeE, binE, ↓reduceIte, Nat.reduceLT, Nat.reduceLeDiff, Nat.reduceEqDiff, Nat.reduceAdd, Nat.reduceMul, Nat.reduceSub, reduceCtorEq, putAt, unE, Nat.reduceBEq, convE, buildE, List.replicate, Int.reduceLT, Int.reduceLE, Int.reduceToNat, mkE, mapSetE, hN, hF, ty_3, ty_4, ty_5, ty_27, ty_42, ty_98, ty_127, notIf, isEq, h1, h2, h3, h4, h52, h53, faultC, putC, bytes_length, bytes_app, hz, hL, hL0]
          all_goals try refine drawnP_intro (by kernel_rfl) (by kernel_rfl) ?_
          all_goals
            simp only [decide_eq_false_iff_not, decide_eq_true_eq, beq_iff_eq, beq_eq_false_iff_ne, ne_eq] at h1 h2 h3 h4
          all_goals
            simp only [runB, finC, finD, Option.isSome_some, Option.isSome_none, ↓reduceIte, Nat.reduceEqDiff, Nat.reduceAdd, Nat.reduceMul, forall_eq_or_imp, forall_eq, implies_true, Nat.reduceBEq, reduceCtorEq, false_implies, List.zip_cons_cons, List.zip_nil_left, List.zip_nil_right, Nat.reduceLeDiff, List.forall_mem_nil, rs_48, inBlockA_normal, bytes_length]
          all_goals
            have h3' := h3
            rw [show (16384 : Int) = ((16384 : Nat) : Int) from rfl, Int.ofNat_le] at h3'
            simp [wNum, h1, h2, h3', h4]
        · rename_i hm
          cases hr
          refine ⟨rfl, by show 2 ≤ _; decide, fun E hN hns hF => ?_⟩
          refine vc_sound hΓ mixed _ _ _ ?_
          have hN := hN.trans nt_48
          have hm : made = false := by simpa using hm
          subst hm
          simp only [runA, runB, runC, runD, runE, runF, fieldE, storeE, binE, ↓reduceIte, Nat.reduceLT, Nat.reduceLeDiff, Nat.reduceEqDiff, Nat.reduceAdd, Nat.reduceMul, Nat.reduceSub, reduceCtorEq, putAt, unE, Nat.reduceBEq, convE, buildE, List.replicate, Int.reduceLT, Int.reduceLE, Int.reduceToNat, mkE, mapSetE, hN, hF, ty_3, ty_4, ty_5, ty_27, ty_42, ty_98, ty_127, notIf, isEq]
          simp only [runB, finC, finD, Option.isSome_some, Option.isSome_none, ↓reduceIte, Nat.reduceEqDiff, Nat.reduceAdd, Nat.reduceMul, forall_eq_or_imp, forall_eq, implies_true, Nat.reduceBEq, reduceCtorEq, false_implies, List.zip_cons_cons, List.zip_nil_left, List.zip_nil_right, Nat.reduceLeDiff, List.forall_mem_nil, rs_48, bytes_length]
      · cases hr
    · cases hr
  · cases hr

open Go Go.Proofs Go.RowKit Go.Shelf
attribute [local go_sem] Oper.semAt_some

/-- The box holds the slice, the slice's places hold octets. -/
def Rd (Bs b k cap : Nat) (W : World) : Prop :=
  W.cell? ⟨Bs, 0, none⟩ = some (.slice (some ⟨b, 0, none⟩) k cap) ∧ ∀ j, j < k → ∃ x, W.cell? ⟨b, j, none⟩ = some (.int .u8 x)

set_option maxRecDepth 100000 in
set_option maxHeartbeats 4000000 in
theorem back1_in (F : Fence) (n : Nat) (h7 : F.fn 114) (hro : F.round = none) (hn : 1 ≤ n) (l Bs b k cap : Nat) (hk : k ≤ 140737488351232) (J Jx : List (Nat × Value) → World → Prop)
    (hY : ∀ pre x W, J pre W → pre.length < k → x.1 < k → YieldAt F (n - 1) Try.prog l #[.int .i64 (x.1 : Int), x.2] W fun e W' =>
      (e = .returned (.bool true) ∧ J (pre ++ [x]) W' ∧ (Rd Bs b k cap W → Rd Bs b k cap W')) ∨ (e = .returned (.bool false) ∧ Jx (pre ++ [x]) W'))
    (W : World) (hR : Rd Bs b k cap W) (h0 : J [] W) :
    CallsIn F n Try.prog 114 #[.func (.yield l) #[] #[], .pointer (some ⟨Bs, 0, none⟩)] W fun e W' => (∃ v, e = .returned v) ∧
      ((∃ ys, ys.map (·.1) = (List.range k).map (fun m => k - 1 - m) ∧ J ys W') ∨ (∃ pre, True ∧ Jx pre W')) := by
  refine callsIn_of_wp Try.func114 rfl h7 ?_ hro
  simp only [Try.ntmps114, List.size_toArray, List.length_cons, List.length_nil, Nat.reduceAdd, Nat.reduceSub, Array.replicate_succ, Array.replicate_zero, List.push_toArray, List.append_toArray, List.nil_append, List.cons_append]
  have hbox := hR.1
  gi_wp2
  gi_loopw [3] (fun i wr => ∃ (m : Nat) (ys : List (Nat × Value)), m ≤ k ∧ i = .int .i64 ((k : Int) - 1 - m) ∧ ys.map (·.1) = (List.range m).map (fun j => k - 1 - j) ∧ J ys wr ∧ Rd Bs b k cap wr)
    (fun i _ => (intOf i + 1).toNat)
  case atStart => exact ⟨0, [], Nat.zero_le _, by simp, rfl, h0, hR⟩
  case round =>
    obtain ⟨m, ys, hm, rfl, hys, hJs, hRs⟩ := hrel
    by_cases hlt : m < k
    · obtain ⟨x, hx⟩ := hRs.2 (k - 1 - m) (by omega)
      obtain ⟨fn, tmps, assign, body, hy, hR1⟩ := hY ys (k - 1 - m, .int .u8 x) wr hJs (by have := congrArg List.length hys; simp at this; omega) (by omega)
      dsimp only at hy
      have hbx := hRs.1
      have e1 : ((k - 1 - m : Nat) : Int) = (k : Int) - 1 - m := by omega
      rw [e1] at hy
      gi_wp2
      refine hR1.mono ?_
      rintro e W3 (⟨rfl, hJ3, hk3⟩ | ⟨rfl, hJx3⟩)
      · gi_wp2
        go_roundw
        case rel => exact ⟨m + 1, ys ++ [(k - 1 - m, .int .u8 x)], by omega, by congr 1; omega, by simp [hys, List.range_succ], hJ3, hk3 hRs⟩
        case measure => simp [intOf]; omega
      · gi_wp2
        refine bodyPost_ret (results_none rfl _ _ _) rfl ?_
        exact ⟨⟨_, rfl⟩, .inr ⟨_, trivial, hJx3⟩⟩
    · obtain rfl : m = k := by omega
      gi_wp2
      go_end0
      exact ⟨⟨_, rfl⟩, .inl ⟨ys, hys, hJs⟩⟩

/-- slices.Backward: the slice is boxed. -/
theorem back_in (F : Fence) (n : Nat) (h5 : F.fn 93) (hro : F.round = none) (a : Option Addr) (len cap : Nat) (w : World) :
    CallsIn F n Try.prog 93 #[.slice a len cap] w fun e w' => e = .returned (.func (.func 114) #[] #[.pointer (some ⟨w.heap.size, 0, none⟩)]) ∧ w' = w.alloc (.cells #[.slice a len cap] 27) := by
  refine callsIn_of_wp Try.func93 rfl h5 ?_ hro
  simp only [Try.ntmps93, List.size_toArray, List.length_cons, List.length_nil, Nat.reduceAdd, Nat.reduceSub, Array.replicate_succ, Array.replicate_zero, List.push_toArray, List.append_toArray, List.nil_append, List.cons_append]
  gi_wp2
  go_ret
  exact ⟨rfl, rfl⟩

theorem Rd.putObj {Bs b k cap l : Nat} {W : World} (h : Rd Bs b k cap W) (o : Obj) (h1 : Bs ≠ l) (h2 : b ≠ l) : Rd Bs b k cap (W.putObj l o) := by
  have e : ∀ (c j : Nat), c ≠ l → (W.putObj l o).cell? ⟨c, j, none⟩ = W.cell? ⟨c, j, none⟩ := fun c j hc => by
    simp only [World.cell?, World.putObj_heap_other hc]
  exact ⟨by rw [e _ _ h1]; exact h.1, fun j hj => by rw [e _ _ h2]; exact h.2 j hj⟩

theorem Rd.below {Bs b k cap B : Nat} {A W : World} (h : Rd Bs b k cap A) (hb : Below B A W) (h1 : Bs < B) (h2 : b < B) : Rd Bs b k cap W :=
  ⟨(hb.cell (p := ⟨Bs, 0, none⟩) h1).trans h.1, fun j hj => let ⟨x, hx⟩ := h.2 j hj; ⟨x, (hb.cell (p := ⟨b, j, none⟩) h2).trans hx⟩⟩

theorem back_stops (F : Fence) (n : Nat) (h7 : F.fn 114) (hro : F.round = none) (hn : 1 ≤ n) (Bs b k cap : Nat) (hk : k ≤ 140737488351232) (w : World) (hBs : Bs < w.heap.size) (hb : b < w.heap.size)
    (hR : Rd Bs b k cap w) :
    SeqStopsK F n Try.prog 114 #[.pointer (some ⟨Bs, 0, none⟩)] (fun x : Fin k × Value => #[Value.int .i64 ((x.1.val : Nat) : Int), x.2]) (fun A B => Rd Bs b k cap A → Rd Bs b k cap B)
      (fun ys => ys.map (fun x => x.1.val) = (List.range k).map (fun m => k - 1 - m)) (fun _ => True) k w := fun l J Jx W hW _ _ hY h0 => by
  have := back1_in F n h7 hro hn l Bs b k cap hk (fun ys W => ∃ zs : List (Fin k × Value), zs.map (fun x => (x.1.val, x.2)) = ys ∧ J zs W) (fun ys W => ∃ zs : List (Fin k × Value), zs.map (fun x => (x.1.val, x.2)) = ys ∧ Jx zs W) (fun pre x W hJ hlen hx => ?_) W (hR.below hW hBs hb) ⟨[], rfl, h0⟩
  · refine this.mono ?_
    rintro e W' ⟨he, ⟨ys, hys, zs, rfl, hJ⟩ | ⟨pre, _, zs, rfl, hJ⟩⟩
    · exact ⟨he, .inl ⟨zs, by rw [← hys]; simp, hJ⟩⟩
    · exact ⟨he, .inr ⟨zs, trivial, hJ⟩⟩
  · obtain ⟨zs, rfl, hJ⟩ := hJ
    obtain ⟨fn, tmps, assign, body, hy, hR1⟩ := hY zs (⟨x.1, hx⟩, x.2) W hJ (by simpa using hlen)
    refine ⟨fn, tmps, assign, body, hy, hR1.mono ?_⟩
    rintro e W' (⟨rfl, hJ', hk'⟩ | ⟨rfl, hJx'⟩)
    · exact .inl ⟨rfl, ⟨_, by simp, hJ'⟩, hk'⟩
    · exact .inr ⟨rfl, ⟨_, by simp, hJx'⟩⟩

/-- One round: a place is written. -/
def putStep (t : List Value × Int) (i : Nat) : List Value × Int := (t.1.set i (.int .u8 (t.2 % 256)), t.2 / 256)

theorem mk_run (k : Nat) (hk : k ≤ 8) (w : World) : (Instr.makeSlice 27 (.int .i64 (k : Int)) (.int .i64 (k : Int))).run Try.prog w = .ok (.slice (some ⟨w.heap.size, 0, none⟩) k k) (w.alloc (.cells (Array.replicate k (.int .u8 0)) 5)) := by
  have hi : (Try.prog.info? 5).map (fun i => (i.zero, i.size, i.bytes)) = some (some (.int .u8 0), 1, 1) := by kernel_rfl
  cases h : Try.prog.info? 5 with
  | none => rw [h] at hi; cases hi
  | some i =>
    rw [h] at hi
    simp only [Option.map_some, Option.some.injEq, Prod.mk.injEq] at hi
    obtain ⟨h2, h3, h4⟩ := hi
    have := run_makeSlice (P := Try.prog) (w := w) 27 5 i _ Try.underlying27 h h2 .i64 .i64 (k : Int) (k : Int) (by omega) (Int.le_refl _) (by rw [h3]; simp; omega) (by rw [h4]; omega) (by omega)
    simp only [Int.toNat_natCast] at this
    rw [this]
    have e : madeCells (Value.int .u8 0).cells (k * i.size) = Array.replicate k (.int .u8 0) := by
      rw [h3, Nat.mul_one]
      apply Array.ext
      · simp [madeCells]
      · intro j hj1 hj2
        simp [madeCells, Value.cells, Nat.mod_one]
    rw [e]

theorem heap_own {W W' : World} {row : Option Nat} {b : Nat} {vs : Array Value} {ty : TypeId} {fz : Nat × Nat} (h : W.heap[b]? = some (.cells vs ty fz)) (hg : W.grownBy W' row)
    (hr : ∀ r, row = some r → ∃ o : Obj, W.heap[r]? = some o ∧ o.isCells = false) : W'.heap[b]? = some (.cells vs ty fz) := by
  have hlt : b < W.heap.size := (Array.getElem?_eq_some_iff.1 h).1
  refine (hg.block b hlt (fun e => ?_)).trans h
  obtain ⟨o, ho, hc⟩ := hr b e.symm
  rw [h] at ho
  cases ho
  simp [Obj.isCells] at hc
theorem heap_set {W : World} {b o : Nat} {vs : Array Value} {ty : TypeId} {fz : Nat × Nat} (h : W.heap[b]? = some (.cells vs ty fz)) (v : Value) : (W.setCell ⟨b, o, none⟩ v).heap[b]? = some (.cells (vs.setIfInBounds o v) ty fz) := by
  simp [World.setCell, Array.getElem?_modify, h]

/-- What a round finds. -/
structure PutI (w : World) (k : Nat) (x : Int) (pre : List (Fin k × Value)) (W : World) : Prop where
  row : W.heap[w.heap.size]? = some (.cells (pre.foldl (fun t y => putStep t y.1.val) (List.replicate k (.int .u8 0), IntKind.u64.wrap x)).1.toArray 5 (0, 0))
  out : W.heap[w.heap.size + 1]? = some (.cells #[.slice (some ⟨w.heap.size, 0, none⟩) k k] 27 (0, 0))
  u : W.heap[w.heap.size + 1 + 1]? = some (.cells #[.int .u64 (pre.foldl (fun t y => putStep t y.1.val) (List.replicate k (.int .u8 0), IntKind.u64.wrap x)).2] 129 (0, 0))
  box : W.heap[w.heap.size + 1 + 1 + 1]? = some (.cells #[.slice (some ⟨w.heap.size, 0, none⟩) k k] 27 (0, 0))
  bel : Below w.heap.size w W

theorem put_len {k : Nat} : ∀ (pre : List (Fin k × Value)) (t : List Value × Int), (pre.foldl (fun t y => putStep t y.1.val) t).1.length = t.1.length := by
  intro pre
  induction pre with
  | nil => intro t; rfl
  | cons y pre ih => intro t; rw [List.foldl_cons, ih]; simp [putStep]

set_option maxRecDepth 100000 in
set_option maxHeartbeats 4000000 in
theorem put_in (F : Fence) (n : Nat) (h3 : F.fn 75) (h5 : F.fn 93) (h7 : F.fn 114) (hro : F.round = none) (hn : 3 ≤ n) (x : Int) (k : Nat) (hk : k ≤ 8) (w : World) :
    CallsIn F n Try.prog 75 #[.int .i64 x, .int .i64 (k : Int)] w fun e W' => e = .returned (.slice (some ⟨w.heap.size, 0, none⟩) k k) ∧ Below w.heap.size w W' ∧
      ∃ pre : List (Fin k × Value), pre.map (fun x => x.1.val) = (List.range k).map (fun m => k - 1 - m) ∧
        W'.heap[w.heap.size]? = some (.cells (pre.foldl (fun t y => putStep t y.1.val) (List.replicate k (.int .u8 0), IntKind.u64.wrap x)).1.toArray 5 (0, 0)) := by
  have h1 : 1 ≤ n := by omega
  have g1 : ¬ ((0 : Int) > (k : Int)) := by omega
  have g2 : ¬ ((8 : Int) < (k : Int)) := by omega
  have hmk := mk_run k hk
  refine callsIn_of_wp_marks Try.func75 rfl h3 ?_ hro
  simp only [Try.ntmps75, List.size_toArray, List.length_cons, List.length_nil, Nat.reduceAdd, Nat.reduceSub, Array.replicate_succ, Array.replicate_zero, List.push_toArray, List.append_toArray, List.nil_append, List.cons_append]
  gi_wp2_with (gi_at_call 93; refine (back_in F (n - 1) h5 hro _ _ _ _).mono ?_; rintro e w' ⟨rfl, rfl⟩)
  have hI0 : PutI w k x [] ((((w.alloc (.cells (Array.replicate k (.int .u8 0)) 5)).alloc (.cells #[.slice (some ⟨w.heap.size, 0, none⟩) k k] 27)).alloc (.cells #[.int .u64 (IntKind.u64.wrap x)] 129)).alloc (.cells #[.slice (some ⟨w.heap.size, 0, none⟩) k k] 27)) := by
    have a0 : ∀ (v : World) (o : Obj) (b : Nat), b < v.heap.size → (v.alloc o).heap[b]? = v.heap[b]? := fun v o b hb => Below.heap_alloc v o b hb
    have a1 : ∀ (v : World) (o : Obj), (v.alloc o).heap[v.heap.size]? = some o := fun v o => World.alloc_heap_new v o
    refine ⟨?_, ?_, ?_, ?_, ?_⟩
    · rw [a0 _ _ _ (by simp; omega), a0 _ _ _ (by simp; omega), a0 _ _ _ (by simp), a1]; simp
    · rw [a0 _ _ _ (by simp), a0 _ _ _ (by simp)]
      have := a1 (w.alloc (.cells (Array.replicate k (.int .u8 0)) 5)) (.cells #[.slice (some ⟨w.heap.size, 0, none⟩) k k] 27)
      rwa [World.size_alloc] at this
    · rw [a0 _ _ _ (by simp)]
      have := a1 ((w.alloc (.cells (Array.replicate k (.int .u8 0)) 5)).alloc (.cells #[.slice (some ⟨w.heap.size, 0, none⟩) k k] 27)) (.cells #[.int .u64 (IntKind.u64.wrap x)] 129)
      rwa [World.size_alloc, World.size_alloc] at this
    · have := a1 (((w.alloc (.cells (Array.replicate k (.int .u8 0)) 5)).alloc (.cells #[.slice (some ⟨w.heap.size, 0, none⟩) k k] 27)).alloc (.cells #[.int .u64 (IntKind.u64.wrap x)] 129)) (.cells #[.slice (some ⟨w.heap.size, 0, none⟩) k k] 27)
      rwa [World.size_alloc, World.size_alloc, World.size_alloc] at this
    · exact ((((Below.refl _ w).alloc (Nat.le_refl _) _).alloc (by simp) _).alloc (by simp; omega) _).alloc (by simp; omega) _
  generalize hW0 : ((((w.alloc (.cells (Array.replicate k (.int .u8 0)) 5)).alloc (.cells #[.slice (some ⟨w.heap.size, 0, none⟩) k k] 27)).alloc (.cells #[.int .u64 (IntKind.u64.wrap x)] 129)).alloc (.cells #[.slice (some ⟨w.heap.size, 0, none⟩) k k] 27)) = W0 at hI0 ⊢
  have hsz : W0.heap.size = w.heap.size + 4 := by rw [← hW0]; simp
  have hRd : ∀ pre W, PutI w k x pre W → Rd (w.heap.size + 1 + 1 + 1) w.heap.size k k W := by
    intro pre W hP
    refine ⟨by simp [World.cell?, hP.box], fun j hj => ?_⟩
    have hrow := hP.row
    have hu8 : ∀ (pre : List (Fin k × Value)) (t : List Value × Int), (∀ v ∈ t.1, ∃ z, v = .int .u8 z) → ∀ v ∈ (pre.foldl (fun t y => putStep t y.1.val) t).1, ∃ z, v = .int .u8 z := by
      intro pre
      induction pre with
      | nil => intro t h; exact h
      | cons y pre ih =>
        intro t h
        rw [List.foldl_cons]
        refine ih _ fun v hv => ?_
        rcases List.mem_or_eq_of_mem_set hv with h1 | h1
        · exact h v h1
        · exact ⟨_, h1⟩
    have hl := put_len (k := k) pre (List.replicate k (.int .u8 0), IntKind.u64.wrap x)
    rw [List.length_replicate] at hl
    generalize hT : pre.foldl (fun t y => putStep t y.1.val) (List.replicate k (.int .u8 0), IntKind.u64.wrap x) = T at hrow hl
    have h8 : ∀ v ∈ T.1, ∃ z, v = .int .u8 z := by
      rw [← hT]
      exact hu8 pre _ (fun v hv => ⟨0, (List.mem_replicate.1 hv).2⟩)
    obtain ⟨z, hz⟩ := h8 (T.1[j]'(by omega)) (by simp)
    exact ⟨z, by simp [World.cell?, hrow, ← hz, hl, hj]⟩
  refine wpIn_rangeFunc_ownF hro h1 (gf := 114) (lb := #[.pointer (some ⟨w.heap.size + 1 + 1 + 1, 0, none⟩)]) rfl h7 (enters_of Try.func114 (by kernel_rfl) rfl)
    (back_stops F (n - 1) h7 hro (by omega) (w.heap.size + 1 + 1 + 1) w.heap.size k k (by omega) W0 (by omega) (by omega) (hRd _ _ hI0))
    (fun h g r => g (h r)) (fun W l o o' hl _ _ _ r => r.putObj o' (by omega) (by omega)) (Below.refl _ _) (fun _ => rfl)
    (PutI w k x) (fun _ _ _ => False)
    (fun s A B row hs hg hr => ?own)
    (fun _ _ _ _ _ hs _ _ => hs)
    hI0
    (fun y => { tmps := #[.int .i64 x, .int .i64 (k : Int), undef, undef, .slice none 0 0, .pointer (some ⟨w.heap.size + 1, 0, none⟩), .pointer (some ⟨w.heap.size + 1 + 1, 0, none⟩), .int .i64 (y.1.val : Int), .int .i64 (k : Int),
      .int .i64 (k : Int), .int .i64 (k : Int), .slice (some ⟨w.heap.size, 0, none⟩) k k, .int .i64 x, .int .u64 (IntKind.u64.wrap x), .slice (some ⟨w.heap.size, 0, none⟩) k k,
      .func (.func 114) #[] #[.pointer (some ⟨w.heap.size + 1 + 1 + 1, 0, none⟩)], .int .i64 (y.1.val : Int), y.2, undef, undef, undef, undef, undef, undef, undef, undef], defers := [] }) ?assign ?body ?done ?stop
  case own =>
    have hr' : ∀ r, row = some r → ∃ o : Obj, A.heap[r]? = some o ∧ o.isCells = false := fun r e => (hr r e).2
    exact ⟨heap_own hs.row hg hr', heap_own hs.out hg hr', heap_own hs.u hg hr', heap_own hs.box hg hr', hs.bel.grown hg hs.bel.size (fun j e => by have := (hr j e).1; omega)⟩
  case assign =>
    intro l y W K hK
    gi_wp2
    exact hK
  case body =>
    rintro l pre y W hP _
    have hrow := hP.row
    have hout := hP.out
    have hu := hP.u
    have hylt := y.1.isLt
    generalize hT : pre.foldl (fun t y => putStep t y.1.val) (List.replicate k (.int .u8 0), IntKind.u64.wrap x) = T at hrow hu
    have c1 : W.cell? ⟨w.heap.size + 1, 0, none⟩ = some (.slice (some ⟨w.heap.size, 0, none⟩) k k) := by simp [World.cell?, hout]
    have c2 : W.cell? ⟨w.heap.size + 1 + 1, 0, none⟩ = some (.int .u64 T.2) := by simp [World.cell?, hu]
    have hTl : T.1.length = k := by rw [← hT, put_len]; simp
    have c3 : W.cell? ⟨w.heap.size, y.1.val, none⟩ = some (T.1[y.1.val]'(by omega)) := by simp [World.cell?, hrow, hTl]
    have f1 : W.frozen? ⟨w.heap.size, y.1.val, none⟩ = false := by simp [World.frozen?, hrow]
    have f2 : W.frozen? ⟨w.heap.size + 1 + 1, 0, none⟩ = false := by simp [World.frozen?, hu]
    gi_wp2
    have hstep : (pre ++ [y]).foldl (fun t y => putStep t y.1.val) (List.replicate k (.int .u8 0), IntKind.u64.wrap x) = putStep T y.1.val := by rw [List.foldl_append, hT]; rfl
    have hP' : PutI w k x (pre ++ [y]) ((W.setCell ⟨w.heap.size, y.1.val, none⟩ (.int .u8 (T.2 % 256))).setCell ⟨w.heap.size + 1 + 1, 0, none⟩ (.int .u64 (T.2 / 256))) := by
      refine ⟨?_, ?_, ?_, ?_, ?_⟩
      · rw [hstep, Below.heap_setCell _ _ _ _ (by dsimp only; omega), heap_set hrow]
        simp [putStep]
      · rw [Below.heap_setCell _ _ _ _ (by dsimp only; omega), Below.heap_setCell _ _ _ _ (by dsimp only; omega)]; exact hout
      · rw [hstep, heap_set (by rw [Below.heap_setCell _ _ _ _ (by dsimp only; omega)]; exact hu)]
        simp [putStep]
      · rw [Below.heap_setCell _ _ _ _ (by dsimp only; omega), Below.heap_setCell _ _ _ _ (by dsimp only; omega)]; exact hP.box
      · exact (hP.bel.setCell (p := ⟨w.heap.size, y.1.val, none⟩) (Nat.le_refl _) _).setCell (p := ⟨w.heap.size + 1 + 1, 0, none⟩) (by simp; omega) _
    exact ⟨(KeepsOthers.setCell _ _ _).trans (KeepsOthers.setCell _ _ _), fun _ => hRd _ _ hP', hP'⟩
  case done =>
    rintro D ys W hD hys hP hK
    have hout := hP.out
    have c1 : W.cell? ⟨w.heap.size + 1, 0, none⟩ = some (.slice (some ⟨w.heap.size, 0, none⟩) k k) := by simp [World.cell?, hout]
    gi_wp2
    refine ⟨by simp, .inl ⟨_, _, rfl, run_takeDeferred hK, ?_⟩⟩
    refine ⟨_, results_tmp rfl _ _ _, rfl, hP.bel.trans (belowK_b (w := w) (Nat.le_refl _) W D _ _ (by omega) hK rfl rfl), ys, hys, ?_⟩
    rw [World.putObj_heap_other (by omega)]
    exact hP.row
  case stop =>
    rintro D c pre W _ _ h _
    exact h.elim

/-- What the rounds have written: the number's octets. -/
theorem put_fold (k : Nat) (U : Int) (hU : 0 ≤ U) : ∀ m, m ≤ k → ∃ T : List Value × Int, ((List.range m).map (fun j => k - 1 - j)).foldl putStep (List.replicate k (.int .u8 0), U) = T ∧ T.2 = U / 256 ^ m ∧ T.1.length = k ∧
    ∀ i, i < k → k - m ≤ i → T.1[i]? = some (.int .u8 (U / 256 ^ (k - 1 - i) % 256)) := by
  intro m
  induction m with
  | zero => exact fun _ => ⟨_, rfl, by simp, by simp, fun i h1 h2 => by omega⟩
  | succ m ih =>
    intro hm
    obtain ⟨T, h1, h2, h3, h4⟩ := ih (by omega)
    rw [List.range_succ, List.map_append, List.foldl_append, h1]
    refine ⟨_, rfl, ?_, ?_, fun i hi hle => ?_⟩
    · simp only [List.map_cons, List.map_nil, List.foldl_cons, List.foldl_nil, putStep, h2]
      rw [Int.ediv_ediv_of_nonneg (Int.le_of_lt (Int.pow_pos (by decide))), Int.pow_succ]
    · simp [putStep, h3]
    · simp only [List.map_cons, List.map_nil, List.foldl_cons, List.foldl_nil, putStep]
      rw [List.getElem?_set]
      by_cases e : k - 1 - m = i
      · rw [if_pos e, if_pos (by omega), h2]
        have : m = k - 1 - i := by omega
        rw [this]
      · rw [if_neg e]
        exact h4 i hi (by omega)

theorem put_sound : SoundC Try.prog 75 putC := by
  refine ⟨⟨_, Try.func75, rfl, rfl⟩, fun args objs r hr => ?_⟩
  unfold putC at hr
  split at hr
  · rename_i n size
    split at hr
    · rename_i hs
      cases hr
      refine ⟨fun x hx => ?_, fun Ext G w vals M hl hx => ?_⟩
      · simp at hx
      · obtain ⟨k, hk⟩ : ∃ k : Nat, size = (k : Int) := ⟨size.toNat, by omega⟩
        subst hk
        have hk8 : k ≤ 8 := by omega
        match vals, hl with
        | [v1, v2], _ =>
        have e1 : v1 = .int .i64 n := by
          have := hx 0 _ v1 rfl rfl
          cases this with
          | c _ _ h => cases h; rfl
        have e2 : v2 = .int .i64 (k : Int) := by
          have := hx 1 _ v2 rfl rfl
          cases this with
          | c _ _ h => cases h; rfl
        subst e1 e2
        refine Calls.mono (callsIn_wide.1 (put_in Fence.wide 3 trivial trivial trivial rfl (by omega) n k hk8 w)) ?_
        rintro e W' ⟨rfl, bel, pre, hpre, hrow⟩
        rw [← List.foldl_map (f := fun y : Fin k × Value => y.1.val) (g := putStep), hpre] at hrow
        have hU : 0 ≤ IntKind.u64.wrap n := wrap_u64_nonneg n
        obtain ⟨T, h1, h2, h3, h4⟩ := put_fold k (IntKind.u64.wrap n) hU k (Nat.le_refl _)
        rw [h1] at hrow
        have hlen : (putB n (k : Int)).length = k := by rw [putB_length]; omega
        have hv : ∀ (j : Nat) (r : List PC) (i : Nat) (c : PC), (bytes (putB n (k : Int)))[j]? = some r → r[i]? = some c → ∃ v, T.1.toArray[j * 1 + i]? = some v ∧ VR G.K c v := by
          intro j r i c hj hi
          simp only [bytes, List.getElem?_map, Option.map_eq_some_iff] at hj
          obtain ⟨b, hb, rfl⟩ := hj
          have hjk : j < k := by rw [← hlen]; exact (List.getElem?_eq_some_iff.1 hb).1
          have hi0 : i = 0 := by
            have := (List.getElem?_eq_some_iff.1 hi).1
            simpa using this
          subst hi0
          simp at hi
          subst hi
          refine ⟨.int .u8 (IntKind.u64.wrap n / 256 ^ (k - 1 - j) % 256), ?_, ?_⟩
          · have := h4 j hjk (by omega)
            simpa using this
          · have hm : (min (max (k : Int) 0) 8).toNat = k := by omega
            have : b = UInt8.ofNat ((IntKind.u64.wrap n).toNat / 256 ^ (k - 1 - j) % 256) := by
              unfold putB at hb
              rw [hm, List.getElem?_map, List.getElem?_range hjk] at hb
              simpa using hb.symm
            rw [this, UInt8.toNat_ofNat_of_lt' (Nat.mod_lt _ (by decide))]
            have e : ((( IntKind.u64.wrap n).toNat / 256 ^ (k - 1 - j) % 256 : Nat) : Int) = IntKind.u64.wrap n / 256 ^ (k - 1 - j) % 256 := by
              rw [Int.natCast_emod, Int.natCast_ediv, Int.natCast_pow, Int.toNat_of_nonneg hU]
              rfl
            rw [e]
            exact .int _ _
        obtain ⟨G', g1, g2, g3⟩ := M.newRow (w' := W') (n := outName 0) rfl (z := 1) (cap := k) (rows := bytes (putB n (k : Int))) (by decide) (bytes_rows _) (by rw [bytes_length, hlen]; exact Nat.le_refl _) (by simp [h3]) hrow hv (fun b hb => bel.block b hb) bel.os bel.tape bel.output bel.size
        · rw [bytes_length, hlen] at g2
          refine ⟨G', _, rfl, g1, ?_, g2⟩
          refine g3.congr fun i => ?_
          simp only [exitMem, entryMem, List.nil_append, resAt, look, mset, bytes_length]
    · cases hr
  · cases hr


variable {Γ : FuncId → Contract}


variable {Γ : FuncId → Contract}

/-- What is done. -/
def doneR (w : WS) : List UInt8 × Int := if w.e = 0 then (if 16384 < w.b.length then ([], 5) else (w.b, 0)) else ([], w.e)
def newC : Contract := fun args objs => match args, objs with
  | [], [] => some ⟨[.newobj (wOV [] 0 true)], []⟩
  | _, _ => none
theorem new_sound : SoundC Try.prog 47 newC := by
  refine sound_fn Try.func47 (by kernel_rfl) rfl rfl ?_
  intro args objs r hr
  unfold newC at hr
  split at hr
  · cases hr
    refine ⟨rfl, by show 0 ≤ _; decide, fun E hN hns hF => ?_⟩
    refine vc_sound none0_sound mixed _ _ _ ?_
    have hN := hN.trans nt_47
    simp only [runA, runB, runC, runD, runE, runF, fieldE, storeE, binE, ↓reduceIte, Nat.reduceLT, Nat.reduceLeDiff, Nat.reduceEqDiff, Nat.reduceAdd, Nat.reduceMul, Nat.reduceSub, reduceCtorEq, putAt, unE, Nat.reduceBEq, convE, buildE, List.replicate, Int.reduceLT, Int.reduceLE, Int.reduceToNat, mkE, mapSetE, hN, hF, ty_4, ty_27, ty_42, ty_98, ty_127, Option.getD_some]
    simp only [runB, finC, finD, Option.isSome_some, Option.isSome_none, ↓reduceIte, Nat.reduceEqDiff, Nat.reduceAdd, Nat.reduceMul, forall_eq_or_imp, forall_eq, implies_true, Nat.reduceBEq, reduceCtorEq, false_implies, List.zip_cons_cons, List.zip_nil_left, List.zip_nil_right, Nat.reduceLeDiff, List.forall_mem_nil, rs_47, bytes_length]
    simp [bytes]
  · cases hr

def doneC : Contract := fun args objs => match args, objs with
  | [.nilptr], [] => some ⟨[.fresh 1 (bytes []), .pv (.c (.int .i64 9))], []⟩
  | [.ptr p 0], [[.own 1 rows, .c (.int .i64 e), .c (.bool made)]] => match asB rows with
    | some b => if p = inObj 0 then
        if made then some ⟨[.fresh 1 (bytes (doneR ⟨b, e⟩).1), .pv (.c (.int .i64 (doneR ⟨b, e⟩).2))], [wOV b e true]⟩ else some ⟨[.fresh 1 (bytes []), .pv (.c (.int .i64 9))], [wOV b e false]⟩ else none
    | none => none
  | _, _ => none

set_option maxHeartbeats 4000000 in
theorem done_sound (hΓ : SoundG Try.prog Γ) (h55 : Γ 50 = cloneC) : SoundC Try.prog 49 doneC := by
  refine sound_fn Try.func49 (by kernel_rfl) rfl rfl ?_
  intro args objs r hr
  unfold doneC at hr
  split at hr
  · cases hr
    refine ⟨rfl, by show 1 ≤ _; decide, fun E hN hns hF => ?_⟩
    refine vc_sound hΓ mixed _ _ _ ?_
    have hN := hN.trans nt_49
    simp only [runA, runB, runC, runD, runE, runF, fieldE, storeE, binE, ↓reduceIte, Nat.reduceLT, Nat.reduceLeDiff, Nat.reduceEqDiff, Nat.reduceAdd, Nat.reduceMul, Nat.reduceSub, reduceCtorEq, putAt, unE, Nat.reduceBEq, convE, buildE, List.replicate, Int.reduceLT, Int.reduceLE, Int.reduceToNat, mkE, mapSetE, hN, hF, ty_3, ty_4, ty_5, ty_27, ty_42, ty_98, ty_127, notIf, isEq]
    simp only [runB, finC, finD, Option.isSome_some, Option.isSome_none, ↓reduceIte, Nat.reduceEqDiff, Nat.reduceAdd, Nat.reduceMul, forall_eq_or_imp, forall_eq, implies_true, Nat.reduceBEq, reduceCtorEq, false_implies, List.zip_cons_cons, List.zip_nil_left, List.zip_nil_right, Nat.reduceLeDiff, List.forall_mem_nil, rs_49, bytes_length]
    simp [bytes]
  · split at hr
    · rename_i rows e made _ b hb
      split at hr
      · rename_i hc
        subst hc
        obtain rfl := asB_inv hb
        split at hr
        · rename_i hm
          cases hr
          refine ⟨rfl, by show 1 ≤ _; decide, fun E hN hns hF => ?_⟩
          refine vc_sound hΓ mixed _ _ _ ?_
          have hN := hN.trans nt_49
          subst hm
          have hz := rowsOK_bytes
          cases h4 : (e != 0)
          · by_cases h3n : 16384 < b.length
            · have h3 : decide ((b.length : Int) > 16384) = true := by simp; omega
              simp only [runA, runB, runC, runD, runE, runF, fieldE, storeE, binE, ↓reduceIte, Nat.reduceLT, Nat.reduceLeDiff, Nat.reduceEqDiff, Nat.reduceAdd, Nat.reduceMul, Nat.reduceSub, reduceCtorEq, putAt, unE, Nat.reduceBEq, convE, buildE, List.replicate, Int.reduceLT, Int.reduceLE, Int.reduceToNat, mkE, mapSetE, hN, hF, ty_3, ty_4, ty_5, ty_27, ty_42, ty_98, ty_127, notIf, isEq, h3, h4, h55, cloneC, bytes_length, hz]
              simp only [bne_eq_false_iff_eq] at h4
              simp only [runB, finC, finD, Option.isSome_some, Option.isSome_none, ↓reduceIte, Nat.reduceEqDiff, Nat.reduceAdd, Nat.reduceMul, forall_eq_or_imp, forall_eq, implies_true, Nat.reduceBEq, reduceCtorEq, false_implies, List.zip_cons_cons, List.zip_nil_left, List.zip_nil_right, Nat.reduceLeDiff, List.forall_mem_nil, rs_49, bytes_length]
              simp [doneR, h3n, h4, bytes]
            · have h3 : decide ((b.length : Int) > 16384) = false := by simp; omega
              have hL : b.length ≤ 140737488355328 := by omega
              simp only [runA, runB, runC, runD, runE, runF, fieldE, storeE, binE, ↓reduceIte, Nat.reduceLT, Nat.reduceLeDiff, Nat.reduceEqDiff, Nat.reduceAdd, Nat.reduceMul, Nat.reduceSub, reduceCtorEq, putAt, unE, Nat.reduceBEq, convE, buildE, List.replicate, Int.reduceLT, Int.reduceLE, Int.reduceToNat, mkE, mapSetE, hN, hF, ty_3, ty_4, ty_5, ty_27, ty_42, ty_98, ty_127, notIf, isEq, h3, h4, h55, cloneC, bytes_length, hz, hL]
              simp only [bne_eq_false_iff_eq] at h4
              simp only [runB, finC, finD, Option.isSome_some, Option.isSome_none, ↓reduceIte, Nat.reduceEqDiff, Nat.reduceAdd, Nat.reduceMul, forall_eq_or_imp, forall_eq, implies_true, Nat.reduceBEq, reduceCtorEq, false_implies, List.zip_cons_cons, List.zip_nil_left, List.zip_nil_right, Nat.reduceLeDiff, List.forall_mem_nil, rs_49, bytes_length]
              simp [doneR, h3n, h4]
          · simp only [runA, runB, runC, runD, runE, runF, fieldE, storeE, binE, ↓reduceIte, Nat.reduceLT, Nat.reduceLeDiff, Nat.reduceEqDiff, Nat.reduceAdd, Nat.reduceMul, Nat.reduceSub, reduceCtorEq, putAt, unE, Nat.reduceBEq, convE, buildE, List.replicate, Int.reduceLT, Int.reduceLE, Int.reduceToNat, mkE, mapSetE, hN, hF, ty_3, ty_4, ty_5, ty_27, ty_42, ty_98, ty_127, notIf, isEq, h4, bytes_length, hz]
            refine drawnP_intro (by kernel_rfl) (by kernel_rfl) ?_
            simp only [bne_iff_ne, ne_eq] at h4
            try simp only [runA, runB, runC, runD, runE, runF, fieldE, storeE, binE, ↓reduceIte, Nat.reduceLT, Nat.reduceLeDiff, Nat.reduceEqDiff, Nat.reduceAdd, Nat.reduceMul, Nat.reduceSub, reduceCtorEq, putAt, unE, Nat.reduceBEq, convE, buildE, List.replicate, Int.reduceLT, Int.reduceLE, Int.reduceToNat, mkE, mapSetE, hN, hF, ty_3, ty_4, ty_5, ty_27, ty_42, ty_98, ty_127, bytes_length]
            simp only [runB, finC, finD, Option.isSome_some, Option.isSome_none, ↓reduceIte, Nat.reduceEqDiff, Nat.reduceAdd, Nat.reduceMul, forall_eq_or_imp, forall_eq, implies_true, Nat.reduceBEq, reduceCtorEq, false_implies, List.zip_cons_cons, List.zip_nil_left, List.zip_nil_right, Nat.reduceLeDiff, List.forall_mem_nil, rs_49, bytes_length]
            simp [doneR, h4, bytes]
        · rename_i hm
          cases hr
          refine ⟨rfl, by show 1 ≤ _; decide, fun E hN hns hF => ?_⟩
          refine vc_sound hΓ mixed _ _ _ ?_
          have hN := hN.trans nt_49
          have hm : made = false := by simpa using hm
          subst hm
          simp only [runA, runB, runC, runD, runE, runF, fieldE, storeE, binE, ↓reduceIte, Nat.reduceLT, Nat.reduceLeDiff, Nat.reduceEqDiff, Nat.reduceAdd, Nat.reduceMul, Nat.reduceSub, reduceCtorEq, putAt, unE, Nat.reduceBEq, convE, buildE, List.replicate, Int.reduceLT, Int.reduceLE, Int.reduceToNat, mkE, mapSetE, hN, hF, ty_3, ty_4, ty_5, ty_27, ty_42, ty_98, ty_127, notIf, isEq]
          simp only [runB, finC, finD, Option.isSome_some, Option.isSome_none, ↓reduceIte, Nat.reduceEqDiff, Nat.reduceAdd, Nat.reduceMul, forall_eq_or_imp, forall_eq, implies_true, Nat.reduceBEq, reduceCtorEq, false_implies, List.zip_cons_cons, List.zip_nil_left, List.zip_nil_right, Nat.reduceLeDiff, List.forall_mem_nil, rs_49, bytes_length]
          simp [bytes]
      · cases hr
    · cases hr
  · cases hr


variable {Γ : FuncId → Contract}


variable {Γ : FuncId → Contract}


theorem toPCs_c (l : List PC) : toPCs (l.map .c) = some l := by
  induction l with
  | nil => rfl
  | cons x l ih => simp [toPCs, AV.toPC, ih]
theorem chunks_flat {z : Nat} : ∀ {rows : List (List PC)}, rowsOK z rows → chunks z rows.length rows.flatten = rows
  | [], _ => rfl
  | r :: rows, h => by
    have hr : r.length = z := h r (by simp)
    rw [List.length_cons, chunks, List.flatten_cons]
    rw [List.take_left' hr, List.drop_left' hr, chunks_flat (fun x hx => h x (by simp [hx]))]
theorem flat_len {z : Nat} {rows : List (List PC)} (h : rowsOK z rows) : (rows.flatten.map AV.c).length = rows.length * z := by
  rw [List.length_map, flatten_len h]
theorem flat_put {z : Nat} (h0 : 0 < z) : ∀ {rows : List (List PC)} {i : Nat} {r : List PC}, rowsOK z rows → r.length = z → i < rows.length → putAt (rows.flatten.map AV.c) (i * z) (r.map .c) = (rows.set i r).flatten.map AV.c
  | [], i, r, _, _, hi => by simp at hi
  | x :: rows, 0, r, h, hr, hi => by
    have hx : x.length = z := h x (by simp)
    simp only [putAt, Nat.zero_mul, List.take_zero, List.nil_append, Nat.zero_add, List.length_map, List.flatten_cons, List.map_append, List.set_cons_zero, hr]
    rw [List.drop_left' (by rw [List.length_map, hx])]
  | x :: rows, i + 1, r, h, hr, hi => by
    have hx : x.length = z := h x (by simp)
    have ih := flat_put h0 (rows := rows) (i := i) (r := r) (fun y hy => h y (by simp [hy])) hr (by simpa using hi)
    have e : (i + 1) * z = (x.map AV.c).length + i * z := by rw [List.length_map, hx, Nat.succ_mul]; omega
    simp only [putAt, List.flatten_cons, List.map_append, List.set_cons_succ] at ih ⊢
    rw [e, List.take_length_add_append, Nat.add_assoc, List.drop_length_add_append, List.append_assoc, List.append_assoc, ← ih]
    simp

end Go.Proofs.Ytcfijanfcgnnhaa.AM
