/-
  Q5: Ty Pk1 Pk2 Put Pk3 PkN PkT.
-/
import Derived.Test.YtcfijanfcgnnhaaQ3
import Derived.Test.YtcfijanfcgnnhaaProg
import Derived.KernelRfl
import Derived.RangeFuncNested
import Derived.RangeFuncBound
import Derived.RangeFuncCalls
import Derived.RangeFuncLeaves
import Derived.RangeFuncBox
import Derived.Shelf.Abstract
import Derived.Shelf.RegionOpen
import Derived.WalkKit
import Derived.OwnWalkIn
import Derived.TacticsInMore
import Derived.LoopNIn
import Derived.LoopIn
set_option linter.defProp false
set_option linter.unusedVariables false
set_option linter.unusedSimpArgs false
namespace Go.Proofs.Ytcfijanfcgnnhaa.AM
open Go

theorem und_3 : (Program.underlying Try.prog 3).isSome = true := by kernel_rfl
theorem agg_3 : tyAgg Try.prog 3 = some false := by kernel_rfl
theorem sz_3 : tySize Try.prog 3 = some 1 := by kernel_rfl
theorem by_3 : tyBytes Try.prog 3 = some 8 := by kernel_rfl
theorem zero_3 : tyZero Try.prog 3 = some [.c (.int .i64 0)] := by kernel_rfl
theorem elem_3 : tyElem Try.prog 3 = none := by kernel_rfl
theorem arr_3 : tyArr Try.prog 3 = none := by kernel_rfl
theorem int_3 : tyInt Try.prog 3 = some .i64 := by kernel_rfl
theorem str_3 : tyStr Try.prog 3 = false := by kernel_rfl
theorem bool_3 : tyBool Try.prog 3 = false := by kernel_rfl
theorem ptr_3 : tyPtr Try.prog 3 = false := by kernel_rfl
theorem zag_3 : tyZag Try.prog 3 = false := by kernel_rfl
theorem map_3 : tyMap Try.prog 3 = none := by kernel_rfl
theorem pl_3 : tyPlaces Try.prog 3 = none := by kernel_rfl
def ty_3 := And.intro und_3 <| And.intro agg_3 <| And.intro sz_3 <| And.intro by_3 <| And.intro zero_3 <| And.intro elem_3 <| And.intro arr_3 <| And.intro int_3 <| And.intro str_3 <| And.intro bool_3 <| And.intro ptr_3 <| And.intro zag_3 <| And.intro map_3 <| pl_3
theorem und_4 : (Program.underlying Try.prog 4).isSome = true := by kernel_rfl
theorem agg_4 : tyAgg Try.prog 4 = some false := by kernel_rfl
theorem sz_4 : tySize Try.prog 4 = some 1 := by kernel_rfl
theorem by_4 : tyBytes Try.prog 4 = some 1 := by kernel_rfl
theorem zero_4 : tyZero Try.prog 4 = some [.c (.bool false)] := by kernel_rfl
theorem elem_4 : tyElem Try.prog 4 = none := by kernel_rfl
theorem arr_4 : tyArr Try.prog 4 = none := by kernel_rfl
theorem int_4 : tyInt Try.prog 4 = none := by kernel_rfl
theorem str_4 : tyStr Try.prog 4 = false := by kernel_rfl
theorem bool_4 : tyBool Try.prog 4 = true := by kernel_rfl
theorem ptr_4 : tyPtr Try.prog 4 = false := by kernel_rfl
theorem zag_4 : tyZag Try.prog 4 = false := by kernel_rfl
theorem map_4 : tyMap Try.prog 4 = none := by kernel_rfl
theorem pl_4 : tyPlaces Try.prog 4 = none := by kernel_rfl
def ty_4 := And.intro und_4 <| And.intro agg_4 <| And.intro sz_4 <| And.intro by_4 <| And.intro zero_4 <| And.intro elem_4 <| And.intro arr_4 <| And.intro int_4 <| And.intro str_4 <| And.intro bool_4 <| And.intro ptr_4 <| And.intro zag_4 <| And.intro map_4 <| pl_4
theorem und_5 : (Program.underlying Try.prog 5).isSome = true := by kernel_rfl
theorem agg_5 : tyAgg Try.prog 5 = some false := by kernel_rfl
theorem sz_5 : tySize Try.prog 5 = some 1 := by kernel_rfl
theorem by_5 : tyBytes Try.prog 5 = some 1 := by kernel_rfl
theorem zero_5 : tyZero Try.prog 5 = some [.c (.int .u8 0)] := by kernel_rfl
theorem elem_5 : tyElem Try.prog 5 = none := by kernel_rfl
theorem arr_5 : tyArr Try.prog 5 = none := by kernel_rfl
theorem int_5 : tyInt Try.prog 5 = some .u8 := by kernel_rfl
theorem str_5 : tyStr Try.prog 5 = false := by kernel_rfl
theorem bool_5 : tyBool Try.prog 5 = false := by kernel_rfl
theorem ptr_5 : tyPtr Try.prog 5 = false := by kernel_rfl
theorem zag_5 : tyZag Try.prog 5 = false := by kernel_rfl
theorem map_5 : tyMap Try.prog 5 = none := by kernel_rfl
theorem pl_5 : tyPlaces Try.prog 5 = none := by kernel_rfl
def ty_5 := And.intro und_5 <| And.intro agg_5 <| And.intro sz_5 <| And.intro by_5 <| And.intro zero_5 <| And.intro elem_5 <| And.intro arr_5 <| And.intro int_5 <| And.intro str_5 <| And.intro bool_5 <| And.intro ptr_5 <| And.intro zag_5 <| And.intro map_5 <| pl_5
theorem und_9 : (Program.underlying Try.prog 9).isSome = true := by kernel_rfl
theorem agg_9 : tyAgg Try.prog 9 = some false := by kernel_rfl
theorem sz_9 : tySize Try.prog 9 = some 1 := by kernel_rfl
theorem by_9 : tyBytes Try.prog 9 = some 16 := by kernel_rfl
theorem zero_9 : tyZero Try.prog 9 = some [.c (.str [])] := by kernel_rfl
theorem elem_9 : tyElem Try.prog 9 = none := by kernel_rfl
theorem arr_9 : tyArr Try.prog 9 = none := by kernel_rfl
theorem int_9 : tyInt Try.prog 9 = none := by kernel_rfl
theorem str_9 : tyStr Try.prog 9 = true := by kernel_rfl
theorem bool_9 : tyBool Try.prog 9 = false := by kernel_rfl
theorem ptr_9 : tyPtr Try.prog 9 = false := by kernel_rfl
theorem zag_9 : tyZag Try.prog 9 = false := by kernel_rfl
theorem map_9 : tyMap Try.prog 9 = none := by kernel_rfl
theorem pl_9 : tyPlaces Try.prog 9 = none := by kernel_rfl
def ty_9 := And.intro und_9 <| And.intro agg_9 <| And.intro sz_9 <| And.intro by_9 <| And.intro zero_9 <| And.intro elem_9 <| And.intro arr_9 <| And.intro int_9 <| And.intro str_9 <| And.intro bool_9 <| And.intro ptr_9 <| And.intro zag_9 <| And.intro map_9 <| pl_9
theorem und_27 : (Program.underlying Try.prog 27).isSome = true := by kernel_rfl
theorem agg_27 : tyAgg Try.prog 27 = some false := by kernel_rfl
theorem sz_27 : tySize Try.prog 27 = some 1 := by kernel_rfl
theorem by_27 : tyBytes Try.prog 27 = some 24 := by kernel_rfl
theorem zero_27 : tyZero Try.prog 27 = some [.nilsl] := by kernel_rfl
theorem elem_27 : tyElem Try.prog 27 = some 5 := by kernel_rfl
theorem arr_27 : tyArr Try.prog 27 = none := by kernel_rfl
theorem int_27 : tyInt Try.prog 27 = none := by kernel_rfl
theorem str_27 : tyStr Try.prog 27 = false := by kernel_rfl
theorem bool_27 : tyBool Try.prog 27 = false := by kernel_rfl
theorem ptr_27 : tyPtr Try.prog 27 = false := by kernel_rfl
theorem zag_27 : tyZag Try.prog 27 = false := by kernel_rfl
theorem map_27 : tyMap Try.prog 27 = none := by kernel_rfl
theorem pl_27 : tyPlaces Try.prog 27 = none := by kernel_rfl
def ty_27 := And.intro und_27 <| And.intro agg_27 <| And.intro sz_27 <| And.intro by_27 <| And.intro zero_27 <| And.intro elem_27 <| And.intro arr_27 <| And.intro int_27 <| And.intro str_27 <| And.intro bool_27 <| And.intro ptr_27 <| And.intro zag_27 <| And.intro map_27 <| pl_27
theorem und_42 : (Program.underlying Try.prog 42).isSome = true := by kernel_rfl
theorem agg_42 : tyAgg Try.prog 42 = some false := by kernel_rfl
theorem sz_42 : tySize Try.prog 42 = some 1 := by kernel_rfl
theorem by_42 : tyBytes Try.prog 42 = some 8 := by kernel_rfl
theorem zero_42 : tyZero Try.prog 42 = some [.c (.int .i64 0)] := by kernel_rfl
theorem elem_42 : tyElem Try.prog 42 = none := by kernel_rfl
theorem arr_42 : tyArr Try.prog 42 = none := by kernel_rfl
theorem int_42 : tyInt Try.prog 42 = some .i64 := by kernel_rfl
theorem str_42 : tyStr Try.prog 42 = false := by kernel_rfl
theorem bool_42 : tyBool Try.prog 42 = false := by kernel_rfl
theorem ptr_42 : tyPtr Try.prog 42 = false := by kernel_rfl
theorem zag_42 : tyZag Try.prog 42 = false := by kernel_rfl
theorem map_42 : tyMap Try.prog 42 = none := by kernel_rfl
theorem pl_42 : tyPlaces Try.prog 42 = none := by kernel_rfl
def ty_42 := And.intro und_42 <| And.intro agg_42 <| And.intro sz_42 <| And.intro by_42 <| And.intro zero_42 <| And.intro elem_42 <| And.intro arr_42 <| And.intro int_42 <| And.intro str_42 <| And.intro bool_42 <| And.intro ptr_42 <| And.intro zag_42 <| And.intro map_42 <| pl_42
theorem und_47 : (Program.underlying Try.prog 47).isSome = true := by kernel_rfl
theorem agg_47 : tyAgg Try.prog 47 = some true := by kernel_rfl
theorem sz_47 : tySize Try.prog 47 = some 7 := by kernel_rfl
theorem by_47 : tyBytes Try.prog 47 = some 72 := by kernel_rfl
theorem zero_47 : tyZero Try.prog 47 = some [.c (.int .i64 0), .c (.int .i64 0), .c (.int .i64 0), .c (.str []), .c (.int .i64 0), .c (.int .i64 0), .c (.str [])] := by kernel_rfl
theorem elem_47 : tyElem Try.prog 47 = none := by kernel_rfl
theorem arr_47 : tyArr Try.prog 47 = none := by kernel_rfl
theorem int_47 : tyInt Try.prog 47 = none := by kernel_rfl
theorem str_47 : tyStr Try.prog 47 = false := by kernel_rfl
theorem bool_47 : tyBool Try.prog 47 = false := by kernel_rfl
theorem ptr_47 : tyPtr Try.prog 47 = false := by kernel_rfl
theorem zag_47 : tyZag Try.prog 47 = true := by kernel_rfl
theorem map_47 : tyMap Try.prog 47 = none := by kernel_rfl
theorem fd_47_0 : tyField Try.prog 47 0 = some (0, 3, 1) := by kernel_rfl
theorem fd_47_1 : tyField Try.prog 47 1 = some (1, 3, 1) := by kernel_rfl
theorem fd_47_2 : tyField Try.prog 47 2 = some (2, 3, 1) := by kernel_rfl
theorem fd_47_3 : tyField Try.prog 47 3 = some (3, 9, 1) := by kernel_rfl
theorem fd_47_4 : tyField Try.prog 47 4 = some (4, 3, 1) := by kernel_rfl
theorem fd_47_5 : tyField Try.prog 47 5 = some (5, 3, 1) := by kernel_rfl
theorem fd_47_6 : tyField Try.prog 47 6 = some (6, 9, 1) := by kernel_rfl
theorem pl_47 : tyPlaces Try.prog 47 = some [(0, 1), (1, 1), (2, 1), (3, 1), (4, 1), (5, 1), (6, 1)] := by kernel_rfl
def ty_47 := And.intro und_47 <| And.intro agg_47 <| And.intro sz_47 <| And.intro by_47 <| And.intro zero_47 <| And.intro elem_47 <| And.intro arr_47 <| And.intro int_47 <| And.intro str_47 <| And.intro bool_47 <| And.intro ptr_47 <| And.intro zag_47 <| And.intro map_47 <| And.intro fd_47_0 <| And.intro fd_47_1 <| And.intro fd_47_2 <| And.intro fd_47_3 <| And.intro fd_47_4 <| And.intro fd_47_5 <| And.intro fd_47_6 <| pl_47
theorem und_49 : (Program.underlying Try.prog 49).isSome = true := by kernel_rfl
theorem agg_49 : tyAgg Try.prog 49 = some true := by kernel_rfl
theorem sz_49 : tySize Try.prog 49 = some 5 := by kernel_rfl
theorem by_49 : tyBytes Try.prog 49 = some 48 := by kernel_rfl
theorem zero_49 : tyZero Try.prog 49 = some [.c (.int .i64 0), .c (.int .i64 0), .c (.int .i64 0), .c (.int .i64 0), .c (.str [])] := by kernel_rfl
theorem elem_49 : tyElem Try.prog 49 = none := by kernel_rfl
theorem arr_49 : tyArr Try.prog 49 = none := by kernel_rfl
theorem int_49 : tyInt Try.prog 49 = none := by kernel_rfl
theorem str_49 : tyStr Try.prog 49 = false := by kernel_rfl
theorem bool_49 : tyBool Try.prog 49 = false := by kernel_rfl
theorem ptr_49 : tyPtr Try.prog 49 = false := by kernel_rfl
theorem zag_49 : tyZag Try.prog 49 = true := by kernel_rfl
theorem map_49 : tyMap Try.prog 49 = none := by kernel_rfl
theorem fd_49_0 : tyField Try.prog 49 0 = some (0, 3, 1) := by kernel_rfl
theorem fd_49_1 : tyField Try.prog 49 1 = some (1, 3, 1) := by kernel_rfl
theorem fd_49_2 : tyField Try.prog 49 2 = some (2, 3, 1) := by kernel_rfl
theorem fd_49_3 : tyField Try.prog 49 3 = some (3, 3, 1) := by kernel_rfl
theorem fd_49_4 : tyField Try.prog 49 4 = some (4, 9, 1) := by kernel_rfl
theorem pl_49 : tyPlaces Try.prog 49 = some [(0, 1), (1, 1), (2, 1), (3, 1), (4, 1)] := by kernel_rfl
def ty_49 := And.intro und_49 <| And.intro agg_49 <| And.intro sz_49 <| And.intro by_49 <| And.intro zero_49 <| And.intro elem_49 <| And.intro arr_49 <| And.intro int_49 <| And.intro str_49 <| And.intro bool_49 <| And.intro ptr_49 <| And.intro zag_49 <| And.intro map_49 <| And.intro fd_49_0 <| And.intro fd_49_1 <| And.intro fd_49_2 <| And.intro fd_49_3 <| And.intro fd_49_4 <| pl_49
theorem und_51 : (Program.underlying Try.prog 51).isSome = true := by kernel_rfl
theorem agg_51 : tyAgg Try.prog 51 = some true := by kernel_rfl
theorem sz_51 : tySize Try.prog 51 = some 3 := by kernel_rfl
theorem by_51 : tyBytes Try.prog 51 = some 32 := by kernel_rfl
theorem zero_51 : tyZero Try.prog 51 = some [.c (.int .i64 0), .c (.int .i64 0), .c (.str [])] := by kernel_rfl
theorem elem_51 : tyElem Try.prog 51 = none := by kernel_rfl
theorem arr_51 : tyArr Try.prog 51 = none := by kernel_rfl
theorem int_51 : tyInt Try.prog 51 = none := by kernel_rfl
theorem str_51 : tyStr Try.prog 51 = false := by kernel_rfl
theorem bool_51 : tyBool Try.prog 51 = false := by kernel_rfl
theorem ptr_51 : tyPtr Try.prog 51 = false := by kernel_rfl
theorem zag_51 : tyZag Try.prog 51 = true := by kernel_rfl
theorem map_51 : tyMap Try.prog 51 = none := by kernel_rfl
theorem fd_51_0 : tyField Try.prog 51 0 = some (0, 3, 1) := by kernel_rfl
theorem fd_51_1 : tyField Try.prog 51 1 = some (1, 3, 1) := by kernel_rfl
theorem fd_51_2 : tyField Try.prog 51 2 = some (2, 9, 1) := by kernel_rfl
theorem pl_51 : tyPlaces Try.prog 51 = some [(0, 1), (1, 1), (2, 1)] := by kernel_rfl
def ty_51 := And.intro und_51 <| And.intro agg_51 <| And.intro sz_51 <| And.intro by_51 <| And.intro zero_51 <| And.intro elem_51 <| And.intro arr_51 <| And.intro int_51 <| And.intro str_51 <| And.intro bool_51 <| And.intro ptr_51 <| And.intro zag_51 <| And.intro map_51 <| And.intro fd_51_0 <| And.intro fd_51_1 <| And.intro fd_51_2 <| pl_51
theorem und_60 : (Program.underlying Try.prog 60).isSome = true := by kernel_rfl
theorem agg_60 : tyAgg Try.prog 60 = some false := by kernel_rfl
theorem sz_60 : tySize Try.prog 60 = some 1 := by kernel_rfl
theorem by_60 : tyBytes Try.prog 60 = some 24 := by kernel_rfl
theorem zero_60 : tyZero Try.prog 60 = some [.nilsl] := by kernel_rfl
theorem elem_60 : tyElem Try.prog 60 = some 3 := by kernel_rfl
theorem arr_60 : tyArr Try.prog 60 = none := by kernel_rfl
theorem int_60 : tyInt Try.prog 60 = none := by kernel_rfl
theorem str_60 : tyStr Try.prog 60 = false := by kernel_rfl
theorem bool_60 : tyBool Try.prog 60 = false := by kernel_rfl
theorem ptr_60 : tyPtr Try.prog 60 = false := by kernel_rfl
theorem zag_60 : tyZag Try.prog 60 = false := by kernel_rfl
theorem map_60 : tyMap Try.prog 60 = none := by kernel_rfl
theorem pl_60 : tyPlaces Try.prog 60 = none := by kernel_rfl
def ty_60 := And.intro und_60 <| And.intro agg_60 <| And.intro sz_60 <| And.intro by_60 <| And.intro zero_60 <| And.intro elem_60 <| And.intro arr_60 <| And.intro int_60 <| And.intro str_60 <| And.intro bool_60 <| And.intro ptr_60 <| And.intro zag_60 <| And.intro map_60 <| pl_60
theorem und_72 : (Program.underlying Try.prog 72).isSome = true := by kernel_rfl
theorem agg_72 : tyAgg Try.prog 72 = some false := by kernel_rfl
theorem sz_72 : tySize Try.prog 72 = some 1 := by kernel_rfl
theorem by_72 : tyBytes Try.prog 72 = some 24 := by kernel_rfl
theorem zero_72 : tyZero Try.prog 72 = some [.nilsl] := by kernel_rfl
theorem elem_72 : tyElem Try.prog 72 = some 9 := by kernel_rfl
theorem arr_72 : tyArr Try.prog 72 = none := by kernel_rfl
theorem int_72 : tyInt Try.prog 72 = none := by kernel_rfl
theorem str_72 : tyStr Try.prog 72 = false := by kernel_rfl
theorem bool_72 : tyBool Try.prog 72 = false := by kernel_rfl
theorem ptr_72 : tyPtr Try.prog 72 = false := by kernel_rfl
theorem zag_72 : tyZag Try.prog 72 = false := by kernel_rfl
theorem map_72 : tyMap Try.prog 72 = none := by kernel_rfl
theorem pl_72 : tyPlaces Try.prog 72 = none := by kernel_rfl
def ty_72 := And.intro und_72 <| And.intro agg_72 <| And.intro sz_72 <| And.intro by_72 <| And.intro zero_72 <| And.intro elem_72 <| And.intro arr_72 <| And.intro int_72 <| And.intro str_72 <| And.intro bool_72 <| And.intro ptr_72 <| And.intro zag_72 <| And.intro map_72 <| pl_72
theorem und_110 : (Program.underlying Try.prog 110).isSome = true := by kernel_rfl
theorem agg_110 : tyAgg Try.prog 110 = some false := by kernel_rfl
theorem sz_110 : tySize Try.prog 110 = some 1 := by kernel_rfl
theorem by_110 : tyBytes Try.prog 110 = some 8 := by kernel_rfl
theorem zero_110 : tyZero Try.prog 110 = some [.nilptr] := by kernel_rfl
theorem elem_110 : tyElem Try.prog 110 = none := by kernel_rfl
theorem arr_110 : tyArr Try.prog 110 = none := by kernel_rfl
theorem int_110 : tyInt Try.prog 110 = none := by kernel_rfl
theorem str_110 : tyStr Try.prog 110 = false := by kernel_rfl
theorem bool_110 : tyBool Try.prog 110 = false := by kernel_rfl
theorem ptr_110 : tyPtr Try.prog 110 = true := by kernel_rfl
theorem zag_110 : tyZag Try.prog 110 = false := by kernel_rfl
theorem map_110 : tyMap Try.prog 110 = none := by kernel_rfl
theorem pl_110 : tyPlaces Try.prog 110 = none := by kernel_rfl
def ty_110 := And.intro und_110 <| And.intro agg_110 <| And.intro sz_110 <| And.intro by_110 <| And.intro zero_110 <| And.intro elem_110 <| And.intro arr_110 <| And.intro int_110 <| And.intro str_110 <| And.intro bool_110 <| And.intro ptr_110 <| And.intro zag_110 <| And.intro map_110 <| pl_110
theorem und_111 : (Program.underlying Try.prog 111).isSome = true := by kernel_rfl
theorem agg_111 : tyAgg Try.prog 111 = some false := by kernel_rfl
theorem sz_111 : tySize Try.prog 111 = some 1 := by kernel_rfl
theorem by_111 : tyBytes Try.prog 111 = some 24 := by kernel_rfl
theorem zero_111 : tyZero Try.prog 111 = some [.nilsl] := by kernel_rfl
theorem elem_111 : tyElem Try.prog 111 = some 9 := by kernel_rfl
theorem arr_111 : tyArr Try.prog 111 = none := by kernel_rfl
theorem int_111 : tyInt Try.prog 111 = none := by kernel_rfl
theorem str_111 : tyStr Try.prog 111 = false := by kernel_rfl
theorem bool_111 : tyBool Try.prog 111 = false := by kernel_rfl
theorem ptr_111 : tyPtr Try.prog 111 = false := by kernel_rfl
theorem zag_111 : tyZag Try.prog 111 = false := by kernel_rfl
theorem map_111 : tyMap Try.prog 111 = none := by kernel_rfl
theorem pl_111 : tyPlaces Try.prog 111 = none := by kernel_rfl
def ty_111 := And.intro und_111 <| And.intro agg_111 <| And.intro sz_111 <| And.intro by_111 <| And.intro zero_111 <| And.intro elem_111 <| And.intro arr_111 <| And.intro int_111 <| And.intro str_111 <| And.intro bool_111 <| And.intro ptr_111 <| And.intro zag_111 <| And.intro map_111 <| pl_111
theorem nt_9 : Try.f9.ntmps = 20 := by kernel_rfl
theorem rs_9 : Try.f9.results.toList = [.tmp 0] := by kernel_rfl
theorem nt_81 : Try.f81.ntmps = 9 := by kernel_rfl
theorem rs_81 : Try.f81.results.toList = [.tmp 2] := by kernel_rfl
theorem nt_60 : Try.f60.ntmps = 46 := by kernel_rfl
theorem rs_60 : Try.f60.results.toList = [.tmp 2] := by kernel_rfl
theorem nt_27 : Try.f27.ntmps = 54 := by kernel_rfl
theorem rs_27 : Try.f27.results.toList = [.tmp 2] := by kernel_rfl
theorem nt_5 : Try.f5.ntmps = 177 := by kernel_rfl
theorem rs_5 : Try.f5.results.toList = [.tmp 8] := by kernel_rfl
theorem nt_21 : Try.f21.ntmps = 35 := by kernel_rfl
theorem rs_21 : Try.f21.results.toList = [.tmp 2, .tmp 3] := by kernel_rfl
theorem nt_22 : Try.f22.ntmps = 28 := by kernel_rfl
theorem rs_22 : Try.f22.results.toList = [.tmp 2, .tmp 3] := by kernel_rfl
theorem nt_23 : Try.f23.ntmps = 42 := by kernel_rfl
theorem rs_23 : Try.f23.results.toList = [.tmp 2, .tmp 3] := by kernel_rfl
theorem nt_24 : Try.f24.ntmps = 94 := by kernel_rfl
theorem rs_24 : Try.f24.results.toList = [.tmp 2] := by kernel_rfl
theorem nt_25 : Try.f25.ntmps = 20 := by kernel_rfl
theorem rs_25 : Try.f25.results.toList = [.tmp 2] := by kernel_rfl
theorem nt_26 : Try.f26.ntmps = 37 := by kernel_rfl
theorem rs_26 : Try.f26.results.toList = [.tmp 2] := by kernel_rfl
theorem nt_28 : Try.f28.ntmps = 4 := by kernel_rfl
theorem rs_28 : Try.f28.results.toList = [.tmp 2] := by kernel_rfl
theorem nt_56 : Try.f56.ntmps = 43 := by kernel_rfl
theorem rs_56 : Try.f56.results.toList = [.tmp 2] := by kernel_rfl
theorem nt_57 : Try.f57.ntmps = 24 := by kernel_rfl
theorem rs_57 : Try.f57.results.toList = [.tmp 4] := by kernel_rfl
theorem nt_58 : Try.f58.ntmps = 15 := by kernel_rfl
theorem rs_58 : Try.f58.results.toList = [.tmp 4] := by kernel_rfl
theorem nt_59 : Try.f59.ntmps = 7 := by kernel_rfl
theorem rs_59 : Try.f59.results.toList = [.tmp 2] := by kernel_rfl
theorem nt_76 : Try.f76.ntmps = 28 := by kernel_rfl
theorem rs_76 : Try.f76.results.toList = [.tmp 2] := by kernel_rfl
theorem nt_77 : Try.f77.ntmps = 17 := by kernel_rfl
theorem rs_77 : Try.f77.results.toList = [.tmp 2] := by kernel_rfl
theorem nt_78 : Try.f78.ntmps = 9 := by kernel_rfl
theorem rs_78 : Try.f78.results.toList = [.tmp 2] := by kernel_rfl
theorem nt_79 : Try.f79.ntmps = 22 := by kernel_rfl
theorem rs_79 : Try.f79.results.toList = [.tmp 2] := by kernel_rfl
theorem mixed : Try.prog.follows .mixedOrders = true := by kernel_rfl


theorem bytes_length (l : List UInt8) : (bytes l).length = l.length := by simp [bytes]
theorem rowsOK_bytes (l : List UInt8) : rowsOK 1 (bytes l) := by
  intro r hr
  simp only [bytes, List.mem_map] at hr
  obtain ⟨b, _, rfl⟩ := hr
  rfl
structure WS where
  b : List UInt8
  e : Int
  deriving DecidableEq
variable {Γ : FuncId → Contract}
open Go Go.Proofs Go.RowKit Go.Shelf
attribute [local go_sem] Oper.semAt_some

/-- One round: a place is written. -/
def putStep (t : List Value × Int) (i : Nat) : List Value × Int := (t.1.set i (.int .u8 (t.2 % 256)), t.2 / 256)

/-- What a round finds. -/
structure PutI (w : World) (k : Nat) (x : Int) (pre : List (Fin k × Value)) (W : World) : Prop where
  row : W.heap[w.heap.size]? = some (.cells (pre.foldl (fun t y => putStep t y.1.val) (List.replicate k (.int .u8 0), IntKind.u64.wrap x)).1.toArray 5 (0, 0))
  out : W.heap[w.heap.size + 1]? = some (.cells #[.slice (some ⟨w.heap.size, 0, none⟩) k k] 27 (0, 0))
  u : W.heap[w.heap.size + 1 + 1]? = some (.cells #[.int .u64 (pre.foldl (fun t y => putStep t y.1.val) (List.replicate k (.int .u8 0), IntKind.u64.wrap x)).2] 129 (0, 0))
  box : W.heap[w.heap.size + 1 + 1 + 1]? = some (.cells #[.slice (some ⟨w.heap.size, 0, none⟩) k k] 27 (0, 0))
  bel : Below w.heap.size w W


variable {Γ : FuncId → Contract}


variable {Γ : FuncId → Contract}


variable {Γ : FuncId → Contract}

end Go.Proofs.Ytcfijanfcgnnhaa.AM
