/-
  Q5: Ty Pk1 Pk2 Put Pk3.
-/
import Derived.Test.YtenmlgalcjkdbaaGreatQ3
import Derived.Test.YtenmlgalcjkdbaaGreatProg
import Derived.KernelRfl
import Derived.RangeFuncNested
import Derived.RangeFuncBound
import Derived.RangeFuncCalls
import Derived.RangeFuncLeaves
import Derived.RangeFuncBox
import Derived.Shelf.Abstract
import Derived.Shelf.RegionOpen
import Derived.WalkKit
import Derived.OwnWalkIn
import Derived.TacticsInMore
import Derived.LoopNIn
import Derived.LoopIn
set_option linter.defProp false
set_option linter.unusedVariables false
set_option linter.unusedSimpArgs false
namespace Go.Proofs.YtenmlgalcjkdbaaGreat.AM
open Go

theorem und_3 : (Program.underlying Tryz.prog 3).isSome = true := by kernel_rfl
theorem agg_3 : tyAgg Tryz.prog 3 = some false := by kernel_rfl
theorem sz_3 : tySize Tryz.prog 3 = some 1 := by kernel_rfl
theorem by_3 : tyBytes Tryz.prog 3 = some 8 := by kernel_rfl
theorem zero_3 : tyZero Tryz.prog 3 = some [.c (.int .i64 0)] := by kernel_rfl
theorem elem_3 : tyElem Tryz.prog 3 = none := by kernel_rfl
theorem arr_3 : tyArr Tryz.prog 3 = none := by kernel_rfl
theorem int_3 : tyInt Tryz.prog 3 = some .i64 := by kernel_rfl
theorem str_3 : tyStr Tryz.prog 3 = false := by kernel_rfl
theorem bool_3 : tyBool Tryz.prog 3 = false := by kernel_rfl
theorem ptr_3 : tyPtr Tryz.prog 3 = false := by kernel_rfl
theorem zag_3 : tyZag Tryz.prog 3 = false := by kernel_rfl
theorem map_3 : tyMap Tryz.prog 3 = none := by kernel_rfl
theorem pl_3 : tyPlaces Tryz.prog 3 = none := by kernel_rfl
def ty_3 := And.intro und_3 <| And.intro agg_3 <| And.intro sz_3 <| And.intro by_3 <| And.intro zero_3 <| And.intro elem_3 <| And.intro arr_3 <| And.intro int_3 <| And.intro str_3 <| And.intro bool_3 <| And.intro ptr_3 <| And.intro zag_3 <| And.intro map_3 <| pl_3
theorem und_4 : (Program.underlying Tryz.prog 4).isSome = true := by kernel_rfl
theorem agg_4 : tyAgg Tryz.prog 4 = some false := by kernel_rfl
theorem sz_4 : tySize Tryz.prog 4 = some 1 := by kernel_rfl
theorem by_4 : tyBytes Tryz.prog 4 = some 1 := by kernel_rfl
theorem zero_4 : tyZero Tryz.prog 4 = some [.c (.bool false)] := by kernel_rfl
theorem elem_4 : tyElem Tryz.prog 4 = none := by kernel_rfl
theorem arr_4 : tyArr Tryz.prog 4 = none := by kernel_rfl
theorem int_4 : tyInt Tryz.prog 4 = none := by kernel_rfl
theorem str_4 : tyStr Tryz.prog 4 = false := by kernel_rfl
theorem bool_4 : tyBool Tryz.prog 4 = true := by kernel_rfl
theorem ptr_4 : tyPtr Tryz.prog 4 = false := by kernel_rfl
theorem zag_4 : tyZag Tryz.prog 4 = false := by kernel_rfl
theorem map_4 : tyMap Tryz.prog 4 = none := by kernel_rfl
theorem pl_4 : tyPlaces Tryz.prog 4 = none := by kernel_rfl
def ty_4 := And.intro und_4 <| And.intro agg_4 <| And.intro sz_4 <| And.intro by_4 <| And.intro zero_4 <| And.intro elem_4 <| And.intro arr_4 <| And.intro int_4 <| And.intro str_4 <| And.intro bool_4 <| And.intro ptr_4 <| And.intro zag_4 <| And.intro map_4 <| pl_4
theorem und_5 : (Program.underlying Tryz.prog 5).isSome = true := by kernel_rfl
theorem agg_5 : tyAgg Tryz.prog 5 = some false := by kernel_rfl
theorem sz_5 : tySize Tryz.prog 5 = some 1 := by kernel_rfl
theorem by_5 : tyBytes Tryz.prog 5 = some 1 := by kernel_rfl
theorem zero_5 : tyZero Tryz.prog 5 = some [.c (.int .u8 0)] := by kernel_rfl
theorem elem_5 : tyElem Tryz.prog 5 = none := by kernel_rfl
theorem arr_5 : tyArr Tryz.prog 5 = none := by kernel_rfl
theorem int_5 : tyInt Tryz.prog 5 = some .u8 := by kernel_rfl
theorem str_5 : tyStr Tryz.prog 5 = false := by kernel_rfl
theorem bool_5 : tyBool Tryz.prog 5 = false := by kernel_rfl
theorem ptr_5 : tyPtr Tryz.prog 5 = false := by kernel_rfl
theorem zag_5 : tyZag Tryz.prog 5 = false := by kernel_rfl
theorem map_5 : tyMap Tryz.prog 5 = none := by kernel_rfl
theorem pl_5 : tyPlaces Tryz.prog 5 = none := by kernel_rfl
def ty_5 := And.intro und_5 <| And.intro agg_5 <| And.intro sz_5 <| And.intro by_5 <| And.intro zero_5 <| And.intro elem_5 <| And.intro arr_5 <| And.intro int_5 <| And.intro str_5 <| And.intro bool_5 <| And.intro ptr_5 <| And.intro zag_5 <| And.intro map_5 <| pl_5
theorem und_9 : (Program.underlying Tryz.prog 9).isSome = true := by kernel_rfl
theorem agg_9 : tyAgg Tryz.prog 9 = some false := by kernel_rfl
theorem sz_9 : tySize Tryz.prog 9 = some 1 := by kernel_rfl
theorem by_9 : tyBytes Tryz.prog 9 = some 16 := by kernel_rfl
theorem zero_9 : tyZero Tryz.prog 9 = some [.c (.str [])] := by kernel_rfl
theorem elem_9 : tyElem Tryz.prog 9 = none := by kernel_rfl
theorem arr_9 : tyArr Tryz.prog 9 = none := by kernel_rfl
theorem int_9 : tyInt Tryz.prog 9 = none := by kernel_rfl
theorem str_9 : tyStr Tryz.prog 9 = true := by kernel_rfl
theorem bool_9 : tyBool Tryz.prog 9 = false := by kernel_rfl
theorem ptr_9 : tyPtr Tryz.prog 9 = false := by kernel_rfl
theorem zag_9 : tyZag Tryz.prog 9 = false := by kernel_rfl
theorem map_9 : tyMap Tryz.prog 9 = none := by kernel_rfl
theorem pl_9 : tyPlaces Tryz.prog 9 = none := by kernel_rfl
def ty_9 := And.intro und_9 <| And.intro agg_9 <| And.intro sz_9 <| And.intro by_9 <| And.intro zero_9 <| And.intro elem_9 <| And.intro arr_9 <| And.intro int_9 <| And.intro str_9 <| And.intro bool_9 <| And.intro ptr_9 <| And.intro zag_9 <| And.intro map_9 <| pl_9
theorem und_22 : (Program.underlying Tryz.prog 22).isSome = true := by kernel_rfl
theorem agg_22 : tyAgg Tryz.prog 22 = some false := by kernel_rfl
theorem sz_22 : tySize Tryz.prog 22 = some 1 := by kernel_rfl
theorem by_22 : tyBytes Tryz.prog 22 = some 24 := by kernel_rfl
theorem zero_22 : tyZero Tryz.prog 22 = some [.nilsl] := by kernel_rfl
theorem elem_22 : tyElem Tryz.prog 22 = some 36 := by kernel_rfl
theorem arr_22 : tyArr Tryz.prog 22 = none := by kernel_rfl
theorem int_22 : tyInt Tryz.prog 22 = none := by kernel_rfl
theorem str_22 : tyStr Tryz.prog 22 = false := by kernel_rfl
theorem bool_22 : tyBool Tryz.prog 22 = false := by kernel_rfl
theorem ptr_22 : tyPtr Tryz.prog 22 = false := by kernel_rfl
theorem zag_22 : tyZag Tryz.prog 22 = false := by kernel_rfl
theorem map_22 : tyMap Tryz.prog 22 = none := by kernel_rfl
theorem pl_22 : tyPlaces Tryz.prog 22 = none := by kernel_rfl
def ty_22 := And.intro und_22 <| And.intro agg_22 <| And.intro sz_22 <| And.intro by_22 <| And.intro zero_22 <| And.intro elem_22 <| And.intro arr_22 <| And.intro int_22 <| And.intro str_22 <| And.intro bool_22 <| And.intro ptr_22 <| And.intro zag_22 <| And.intro map_22 <| pl_22
theorem und_24 : (Program.underlying Tryz.prog 24).isSome = true := by kernel_rfl
theorem agg_24 : tyAgg Tryz.prog 24 = some false := by kernel_rfl
theorem sz_24 : tySize Tryz.prog 24 = some 1 := by kernel_rfl
theorem by_24 : tyBytes Tryz.prog 24 = some 24 := by kernel_rfl
theorem zero_24 : tyZero Tryz.prog 24 = some [.nilsl] := by kernel_rfl
theorem elem_24 : tyElem Tryz.prog 24 = some 9 := by kernel_rfl
theorem arr_24 : tyArr Tryz.prog 24 = none := by kernel_rfl
theorem int_24 : tyInt Tryz.prog 24 = none := by kernel_rfl
theorem str_24 : tyStr Tryz.prog 24 = false := by kernel_rfl
theorem bool_24 : tyBool Tryz.prog 24 = false := by kernel_rfl
theorem ptr_24 : tyPtr Tryz.prog 24 = false := by kernel_rfl
theorem zag_24 : tyZag Tryz.prog 24 = false := by kernel_rfl
theorem map_24 : tyMap Tryz.prog 24 = none := by kernel_rfl
theorem pl_24 : tyPlaces Tryz.prog 24 = none := by kernel_rfl
def ty_24 := And.intro und_24 <| And.intro agg_24 <| And.intro sz_24 <| And.intro by_24 <| And.intro zero_24 <| And.intro elem_24 <| And.intro arr_24 <| And.intro int_24 <| And.intro str_24 <| And.intro bool_24 <| And.intro ptr_24 <| And.intro zag_24 <| And.intro map_24 <| pl_24
theorem und_29 : (Program.underlying Tryz.prog 29).isSome = true := by kernel_rfl
theorem agg_29 : tyAgg Tryz.prog 29 = some false := by kernel_rfl
theorem sz_29 : tySize Tryz.prog 29 = some 1 := by kernel_rfl
theorem by_29 : tyBytes Tryz.prog 29 = some 24 := by kernel_rfl
theorem zero_29 : tyZero Tryz.prog 29 = some [.nilsl] := by kernel_rfl
theorem elem_29 : tyElem Tryz.prog 29 = some 97 := by kernel_rfl
theorem arr_29 : tyArr Tryz.prog 29 = none := by kernel_rfl
theorem int_29 : tyInt Tryz.prog 29 = none := by kernel_rfl
theorem str_29 : tyStr Tryz.prog 29 = false := by kernel_rfl
theorem bool_29 : tyBool Tryz.prog 29 = false := by kernel_rfl
theorem ptr_29 : tyPtr Tryz.prog 29 = false := by kernel_rfl
theorem zag_29 : tyZag Tryz.prog 29 = false := by kernel_rfl
theorem map_29 : tyMap Tryz.prog 29 = none := by kernel_rfl
theorem pl_29 : tyPlaces Tryz.prog 29 = none := by kernel_rfl
def ty_29 := And.intro und_29 <| And.intro agg_29 <| And.intro sz_29 <| And.intro by_29 <| And.intro zero_29 <| And.intro elem_29 <| And.intro arr_29 <| And.intro int_29 <| And.intro str_29 <| And.intro bool_29 <| And.intro ptr_29 <| And.intro zag_29 <| And.intro map_29 <| pl_29
theorem und_31 : (Program.underlying Tryz.prog 31).isSome = true := by kernel_rfl
theorem agg_31 : tyAgg Tryz.prog 31 = some true := by kernel_rfl
theorem sz_31 : tySize Tryz.prog 31 = some 4 := by kernel_rfl
theorem by_31 : tyBytes Tryz.prog 31 = some 56 := by kernel_rfl
theorem zero_31 : tyZero Tryz.prog 31 = some [.c (.int .i64 0), .c (.int .i64 0), .c (.str []), .nilsl] := by kernel_rfl
theorem elem_31 : tyElem Tryz.prog 31 = none := by kernel_rfl
theorem arr_31 : tyArr Tryz.prog 31 = none := by kernel_rfl
theorem int_31 : tyInt Tryz.prog 31 = none := by kernel_rfl
theorem str_31 : tyStr Tryz.prog 31 = false := by kernel_rfl
theorem bool_31 : tyBool Tryz.prog 31 = false := by kernel_rfl
theorem ptr_31 : tyPtr Tryz.prog 31 = false := by kernel_rfl
theorem zag_31 : tyZag Tryz.prog 31 = true := by kernel_rfl
theorem map_31 : tyMap Tryz.prog 31 = none := by kernel_rfl
theorem fd_31_0 : tyField Tryz.prog 31 0 = some (0, 3, 1) := by kernel_rfl
theorem fd_31_1 : tyField Tryz.prog 31 1 = some (1, 3, 1) := by kernel_rfl
theorem fd_31_2 : tyField Tryz.prog 31 2 = some (2, 9, 1) := by kernel_rfl
theorem fd_31_3 : tyField Tryz.prog 31 3 = some (3, 29, 1) := by kernel_rfl
theorem pl_31 : tyPlaces Tryz.prog 31 = some [(0, 1), (1, 1), (2, 1), (3, 1)] := by kernel_rfl
def ty_31 := And.intro und_31 <| And.intro agg_31 <| And.intro sz_31 <| And.intro by_31 <| And.intro zero_31 <| And.intro elem_31 <| And.intro arr_31 <| And.intro int_31 <| And.intro str_31 <| And.intro bool_31 <| And.intro ptr_31 <| And.intro zag_31 <| And.intro map_31 <| And.intro fd_31_0 <| And.intro fd_31_1 <| And.intro fd_31_2 <| And.intro fd_31_3 <| pl_31
theorem und_33 : (Program.underlying Tryz.prog 33).isSome = true := by kernel_rfl
theorem agg_33 : tyAgg Tryz.prog 33 = some true := by kernel_rfl
theorem sz_33 : tySize Tryz.prog 33 = some 9 := by kernel_rfl
theorem by_33 : tyBytes Tryz.prog 33 = some 128 := by kernel_rfl
theorem zero_33 : tyZero Tryz.prog 33 = some [.c (.int .i64 0), .c (.int .i64 0), .c (.str []), .c (.int .i64 0), .c (.int .i64 0), .c (.str []), .nilsl, .nilsl, .c (.str [])] := by kernel_rfl
theorem elem_33 : tyElem Tryz.prog 33 = none := by kernel_rfl
theorem arr_33 : tyArr Tryz.prog 33 = none := by kernel_rfl
theorem int_33 : tyInt Tryz.prog 33 = none := by kernel_rfl
theorem str_33 : tyStr Tryz.prog 33 = false := by kernel_rfl
theorem bool_33 : tyBool Tryz.prog 33 = false := by kernel_rfl
theorem ptr_33 : tyPtr Tryz.prog 33 = false := by kernel_rfl
theorem zag_33 : tyZag Tryz.prog 33 = true := by kernel_rfl
theorem map_33 : tyMap Tryz.prog 33 = none := by kernel_rfl
theorem fd_33_0 : tyField Tryz.prog 33 0 = some (0, 3, 1) := by kernel_rfl
theorem fd_33_1 : tyField Tryz.prog 33 1 = some (1, 3, 1) := by kernel_rfl
theorem fd_33_2 : tyField Tryz.prog 33 2 = some (2, 9, 1) := by kernel_rfl
theorem fd_33_3 : tyField Tryz.prog 33 3 = some (3, 31, 4) := by kernel_rfl
theorem fd_33_4 : tyField Tryz.prog 33 4 = some (7, 22, 1) := by kernel_rfl
theorem fd_33_5 : tyField Tryz.prog 33 5 = some (8, 9, 1) := by kernel_rfl
theorem pl_33 : tyPlaces Tryz.prog 33 = some [(0, 1), (1, 1), (2, 1), (3, 4), (7, 1), (8, 1)] := by kernel_rfl
def ty_33 := And.intro und_33 <| And.intro agg_33 <| And.intro sz_33 <| And.intro by_33 <| And.intro zero_33 <| And.intro elem_33 <| And.intro arr_33 <| And.intro int_33 <| And.intro str_33 <| And.intro bool_33 <| And.intro ptr_33 <| And.intro zag_33 <| And.intro map_33 <| And.intro fd_33_0 <| And.intro fd_33_1 <| And.intro fd_33_2 <| And.intro fd_33_3 <| And.intro fd_33_4 <| And.intro fd_33_5 <| pl_33
theorem und_36 : (Program.underlying Tryz.prog 36).isSome = true := by kernel_rfl
theorem agg_36 : tyAgg Tryz.prog 36 = some true := by kernel_rfl
theorem sz_36 : tySize Tryz.prog 36 = some 5 := by kernel_rfl
theorem by_36 : tyBytes Tryz.prog 36 = some 48 := by kernel_rfl
theorem zero_36 : tyZero Tryz.prog 36 = some [.c (.int .i64 0), .c (.int .i64 0), .c (.int .i64 0), .c (.int .i64 0), .c (.str [])] := by kernel_rfl
theorem elem_36 : tyElem Tryz.prog 36 = none := by kernel_rfl
theorem arr_36 : tyArr Tryz.prog 36 = none := by kernel_rfl
theorem int_36 : tyInt Tryz.prog 36 = none := by kernel_rfl
theorem str_36 : tyStr Tryz.prog 36 = false := by kernel_rfl
theorem bool_36 : tyBool Tryz.prog 36 = false := by kernel_rfl
theorem ptr_36 : tyPtr Tryz.prog 36 = false := by kernel_rfl
theorem zag_36 : tyZag Tryz.prog 36 = true := by kernel_rfl
theorem map_36 : tyMap Tryz.prog 36 = none := by kernel_rfl
theorem fd_36_0 : tyField Tryz.prog 36 0 = some (0, 3, 1) := by kernel_rfl
theorem fd_36_1 : tyField Tryz.prog 36 1 = some (1, 3, 1) := by kernel_rfl
theorem fd_36_2 : tyField Tryz.prog 36 2 = some (2, 3, 1) := by kernel_rfl
theorem fd_36_3 : tyField Tryz.prog 36 3 = some (3, 3, 1) := by kernel_rfl
theorem fd_36_4 : tyField Tryz.prog 36 4 = some (4, 9, 1) := by kernel_rfl
theorem pl_36 : tyPlaces Tryz.prog 36 = some [(0, 1), (1, 1), (2, 1), (3, 1), (4, 1)] := by kernel_rfl
def ty_36 := And.intro und_36 <| And.intro agg_36 <| And.intro sz_36 <| And.intro by_36 <| And.intro zero_36 <| And.intro elem_36 <| And.intro arr_36 <| And.intro int_36 <| And.intro str_36 <| And.intro bool_36 <| And.intro ptr_36 <| And.intro zag_36 <| And.intro map_36 <| And.intro fd_36_0 <| And.intro fd_36_1 <| And.intro fd_36_2 <| And.intro fd_36_3 <| And.intro fd_36_4 <| pl_36
theorem und_37 : (Program.underlying Tryz.prog 37).isSome = true := by kernel_rfl
theorem agg_37 : tyAgg Tryz.prog 37 = some false := by kernel_rfl
theorem sz_37 : tySize Tryz.prog 37 = some 1 := by kernel_rfl
theorem by_37 : tyBytes Tryz.prog 37 = some 8 := by kernel_rfl
theorem zero_37 : tyZero Tryz.prog 37 = some [.c (.int .i64 0)] := by kernel_rfl
theorem elem_37 : tyElem Tryz.prog 37 = none := by kernel_rfl
theorem arr_37 : tyArr Tryz.prog 37 = none := by kernel_rfl
theorem int_37 : tyInt Tryz.prog 37 = some .i64 := by kernel_rfl
theorem str_37 : tyStr Tryz.prog 37 = false := by kernel_rfl
theorem bool_37 : tyBool Tryz.prog 37 = false := by kernel_rfl
theorem ptr_37 : tyPtr Tryz.prog 37 = false := by kernel_rfl
theorem zag_37 : tyZag Tryz.prog 37 = false := by kernel_rfl
theorem map_37 : tyMap Tryz.prog 37 = none := by kernel_rfl
theorem pl_37 : tyPlaces Tryz.prog 37 = none := by kernel_rfl
def ty_37 := And.intro und_37 <| And.intro agg_37 <| And.intro sz_37 <| And.intro by_37 <| And.intro zero_37 <| And.intro elem_37 <| And.intro arr_37 <| And.intro int_37 <| And.intro str_37 <| And.intro bool_37 <| And.intro ptr_37 <| And.intro zag_37 <| And.intro map_37 <| pl_37
theorem und_43 : (Program.underlying Tryz.prog 43).isSome = true := by kernel_rfl
theorem agg_43 : tyAgg Tryz.prog 43 = some true := by kernel_rfl
theorem sz_43 : tySize Tryz.prog 43 = some 5 := by kernel_rfl
theorem by_43 : tyBytes Tryz.prog 43 = some 72 := by kernel_rfl
theorem zero_43 : tyZero Tryz.prog 43 = some [.nilsl, .nilsl, .c (.int .i64 0), .c (.int .i64 0), .c (.int .i64 0)] := by kernel_rfl
theorem elem_43 : tyElem Tryz.prog 43 = none := by kernel_rfl
theorem arr_43 : tyArr Tryz.prog 43 = none := by kernel_rfl
theorem int_43 : tyInt Tryz.prog 43 = none := by kernel_rfl
theorem str_43 : tyStr Tryz.prog 43 = false := by kernel_rfl
theorem bool_43 : tyBool Tryz.prog 43 = false := by kernel_rfl
theorem ptr_43 : tyPtr Tryz.prog 43 = false := by kernel_rfl
theorem zag_43 : tyZag Tryz.prog 43 = true := by kernel_rfl
theorem map_43 : tyMap Tryz.prog 43 = none := by kernel_rfl
theorem fd_43_0 : tyField Tryz.prog 43 0 = some (0, 24, 1) := by kernel_rfl
theorem fd_43_1 : tyField Tryz.prog 43 1 = some (1, 24, 1) := by kernel_rfl
theorem fd_43_2 : tyField Tryz.prog 43 2 = some (2, 3, 1) := by kernel_rfl
theorem fd_43_3 : tyField Tryz.prog 43 3 = some (3, 3, 1) := by kernel_rfl
theorem fd_43_4 : tyField Tryz.prog 43 4 = some (4, 3, 1) := by kernel_rfl
theorem pl_43 : tyPlaces Tryz.prog 43 = some [(0, 1), (1, 1), (2, 1), (3, 1), (4, 1)] := by kernel_rfl
def ty_43 := And.intro und_43 <| And.intro agg_43 <| And.intro sz_43 <| And.intro by_43 <| And.intro zero_43 <| And.intro elem_43 <| And.intro arr_43 <| And.intro int_43 <| And.intro str_43 <| And.intro bool_43 <| And.intro ptr_43 <| And.intro zag_43 <| And.intro map_43 <| And.intro fd_43_0 <| And.intro fd_43_1 <| And.intro fd_43_2 <| And.intro fd_43_3 <| And.intro fd_43_4 <| pl_43
theorem und_44 : (Program.underlying Tryz.prog 44).isSome = true := by kernel_rfl
theorem agg_44 : tyAgg Tryz.prog 44 = some false := by kernel_rfl
theorem sz_44 : tySize Tryz.prog 44 = some 1 := by kernel_rfl
theorem by_44 : tyBytes Tryz.prog 44 = some 8 := by kernel_rfl
theorem zero_44 : tyZero Tryz.prog 44 = some [.nilptr] := by kernel_rfl
theorem elem_44 : tyElem Tryz.prog 44 = none := by kernel_rfl
theorem arr_44 : tyArr Tryz.prog 44 = none := by kernel_rfl
theorem int_44 : tyInt Tryz.prog 44 = none := by kernel_rfl
theorem str_44 : tyStr Tryz.prog 44 = false := by kernel_rfl
theorem bool_44 : tyBool Tryz.prog 44 = false := by kernel_rfl
theorem ptr_44 : tyPtr Tryz.prog 44 = true := by kernel_rfl
theorem zag_44 : tyZag Tryz.prog 44 = false := by kernel_rfl
theorem map_44 : tyMap Tryz.prog 44 = none := by kernel_rfl
theorem pl_44 : tyPlaces Tryz.prog 44 = none := by kernel_rfl
def ty_44 := And.intro und_44 <| And.intro agg_44 <| And.intro sz_44 <| And.intro by_44 <| And.intro zero_44 <| And.intro elem_44 <| And.intro arr_44 <| And.intro int_44 <| And.intro str_44 <| And.intro bool_44 <| And.intro ptr_44 <| And.intro zag_44 <| And.intro map_44 <| pl_44
theorem und_47 : (Program.underlying Tryz.prog 47).isSome = true := by kernel_rfl
theorem agg_47 : tyAgg Tryz.prog 47 = some false := by kernel_rfl
theorem sz_47 : tySize Tryz.prog 47 = some 1 := by kernel_rfl
theorem by_47 : tyBytes Tryz.prog 47 = some 24 := by kernel_rfl
theorem zero_47 : tyZero Tryz.prog 47 = some [.nilsl] := by kernel_rfl
theorem elem_47 : tyElem Tryz.prog 47 = some 5 := by kernel_rfl
theorem arr_47 : tyArr Tryz.prog 47 = none := by kernel_rfl
theorem int_47 : tyInt Tryz.prog 47 = none := by kernel_rfl
theorem str_47 : tyStr Tryz.prog 47 = false := by kernel_rfl
theorem bool_47 : tyBool Tryz.prog 47 = false := by kernel_rfl
theorem ptr_47 : tyPtr Tryz.prog 47 = false := by kernel_rfl
theorem zag_47 : tyZag Tryz.prog 47 = false := by kernel_rfl
theorem map_47 : tyMap Tryz.prog 47 = none := by kernel_rfl
theorem pl_47 : tyPlaces Tryz.prog 47 = none := by kernel_rfl
def ty_47 := And.intro und_47 <| And.intro agg_47 <| And.intro sz_47 <| And.intro by_47 <| And.intro zero_47 <| And.intro elem_47 <| And.intro arr_47 <| And.intro int_47 <| And.intro str_47 <| And.intro bool_47 <| And.intro ptr_47 <| And.intro zag_47 <| And.intro map_47 <| pl_47
theorem und_57 : (Program.underlying Tryz.prog 57).isSome = true := by kernel_rfl
theorem agg_57 : tyAgg Tryz.prog 57 = some false := by kernel_rfl
theorem sz_57 : tySize Tryz.prog 57 = some 1 := by kernel_rfl
theorem by_57 : tyBytes Tryz.prog 57 = some 24 := by kernel_rfl
theorem zero_57 : tyZero Tryz.prog 57 = some [.nilsl] := by kernel_rfl
theorem elem_57 : tyElem Tryz.prog 57 = some 33 := by kernel_rfl
theorem arr_57 : tyArr Tryz.prog 57 = none := by kernel_rfl
theorem int_57 : tyInt Tryz.prog 57 = none := by kernel_rfl
theorem str_57 : tyStr Tryz.prog 57 = false := by kernel_rfl
theorem bool_57 : tyBool Tryz.prog 57 = false := by kernel_rfl
theorem ptr_57 : tyPtr Tryz.prog 57 = false := by kernel_rfl
theorem zag_57 : tyZag Tryz.prog 57 = false := by kernel_rfl
theorem map_57 : tyMap Tryz.prog 57 = none := by kernel_rfl
theorem pl_57 : tyPlaces Tryz.prog 57 = none := by kernel_rfl
def ty_57 := And.intro und_57 <| And.intro agg_57 <| And.intro sz_57 <| And.intro by_57 <| And.intro zero_57 <| And.intro elem_57 <| And.intro arr_57 <| And.intro int_57 <| And.intro str_57 <| And.intro bool_57 <| And.intro ptr_57 <| And.intro zag_57 <| And.intro map_57 <| pl_57
theorem und_58 : (Program.underlying Tryz.prog 58).isSome = true := by kernel_rfl
theorem agg_58 : tyAgg Tryz.prog 58 = some false := by kernel_rfl
theorem sz_58 : tySize Tryz.prog 58 = some 1 := by kernel_rfl
theorem by_58 : tyBytes Tryz.prog 58 = some 24 := by kernel_rfl
theorem zero_58 : tyZero Tryz.prog 58 = some [.nilsl] := by kernel_rfl
theorem elem_58 : tyElem Tryz.prog 58 = some 31 := by kernel_rfl
theorem arr_58 : tyArr Tryz.prog 58 = none := by kernel_rfl
theorem int_58 : tyInt Tryz.prog 58 = none := by kernel_rfl
theorem str_58 : tyStr Tryz.prog 58 = false := by kernel_rfl
theorem bool_58 : tyBool Tryz.prog 58 = false := by kernel_rfl
theorem ptr_58 : tyPtr Tryz.prog 58 = false := by kernel_rfl
theorem zag_58 : tyZag Tryz.prog 58 = false := by kernel_rfl
theorem map_58 : tyMap Tryz.prog 58 = none := by kernel_rfl
theorem pl_58 : tyPlaces Tryz.prog 58 = none := by kernel_rfl
def ty_58 := And.intro und_58 <| And.intro agg_58 <| And.intro sz_58 <| And.intro by_58 <| And.intro zero_58 <| And.intro elem_58 <| And.intro arr_58 <| And.intro int_58 <| And.intro str_58 <| And.intro bool_58 <| And.intro ptr_58 <| And.intro zag_58 <| And.intro map_58 <| pl_58
theorem und_59 : (Program.underlying Tryz.prog 59).isSome = true := by kernel_rfl
theorem agg_59 : tyAgg Tryz.prog 59 = some false := by kernel_rfl
theorem sz_59 : tySize Tryz.prog 59 = some 1 := by kernel_rfl
theorem by_59 : tyBytes Tryz.prog 59 = some 8 := by kernel_rfl
theorem zero_59 : tyZero Tryz.prog 59 = some [.nilptr] := by kernel_rfl
theorem elem_59 : tyElem Tryz.prog 59 = none := by kernel_rfl
theorem arr_59 : tyArr Tryz.prog 59 = none := by kernel_rfl
theorem int_59 : tyInt Tryz.prog 59 = none := by kernel_rfl
theorem str_59 : tyStr Tryz.prog 59 = false := by kernel_rfl
theorem bool_59 : tyBool Tryz.prog 59 = false := by kernel_rfl
theorem ptr_59 : tyPtr Tryz.prog 59 = true := by kernel_rfl
theorem zag_59 : tyZag Tryz.prog 59 = false := by kernel_rfl
theorem map_59 : tyMap Tryz.prog 59 = none := by kernel_rfl
theorem pl_59 : tyPlaces Tryz.prog 59 = none := by kernel_rfl
def ty_59 := And.intro und_59 <| And.intro agg_59 <| And.intro sz_59 <| And.intro by_59 <| And.intro zero_59 <| And.intro elem_59 <| And.intro arr_59 <| And.intro int_59 <| And.intro str_59 <| And.intro bool_59 <| And.intro ptr_59 <| And.intro zag_59 <| And.intro map_59 <| pl_59
theorem und_62 : (Program.underlying Tryz.prog 62).isSome = true := by kernel_rfl
theorem agg_62 : tyAgg Tryz.prog 62 = some false := by kernel_rfl
theorem sz_62 : tySize Tryz.prog 62 = some 1 := by kernel_rfl
theorem by_62 : tyBytes Tryz.prog 62 = some 24 := by kernel_rfl
theorem zero_62 : tyZero Tryz.prog 62 = some [.nilsl] := by kernel_rfl
theorem elem_62 : tyElem Tryz.prog 62 = some 68 := by kernel_rfl
theorem arr_62 : tyArr Tryz.prog 62 = none := by kernel_rfl
theorem int_62 : tyInt Tryz.prog 62 = none := by kernel_rfl
theorem str_62 : tyStr Tryz.prog 62 = false := by kernel_rfl
theorem bool_62 : tyBool Tryz.prog 62 = false := by kernel_rfl
theorem ptr_62 : tyPtr Tryz.prog 62 = false := by kernel_rfl
theorem zag_62 : tyZag Tryz.prog 62 = false := by kernel_rfl
theorem map_62 : tyMap Tryz.prog 62 = none := by kernel_rfl
theorem pl_62 : tyPlaces Tryz.prog 62 = none := by kernel_rfl
def ty_62 := And.intro und_62 <| And.intro agg_62 <| And.intro sz_62 <| And.intro by_62 <| And.intro zero_62 <| And.intro elem_62 <| And.intro arr_62 <| And.intro int_62 <| And.intro str_62 <| And.intro bool_62 <| And.intro ptr_62 <| And.intro zag_62 <| And.intro map_62 <| pl_62
theorem und_68 : (Program.underlying Tryz.prog 68).isSome = true := by kernel_rfl
theorem agg_68 : tyAgg Tryz.prog 68 = some true := by kernel_rfl
theorem sz_68 : tySize Tryz.prog 68 = some 8 := by kernel_rfl
theorem by_68 : tyBytes Tryz.prog 68 = some 112 := by kernel_rfl
theorem zero_68 : tyZero Tryz.prog 68 = some [.c (.int .i64 0), .c (.int .i64 0), .c (.str []), .nilsl, .c (.int .i64 0), .c (.int .i64 0), .c (.str []), .nilsl] := by kernel_rfl
theorem elem_68 : tyElem Tryz.prog 68 = none := by kernel_rfl
theorem arr_68 : tyArr Tryz.prog 68 = none := by kernel_rfl
theorem int_68 : tyInt Tryz.prog 68 = none := by kernel_rfl
theorem str_68 : tyStr Tryz.prog 68 = false := by kernel_rfl
theorem bool_68 : tyBool Tryz.prog 68 = false := by kernel_rfl
theorem ptr_68 : tyPtr Tryz.prog 68 = false := by kernel_rfl
theorem zag_68 : tyZag Tryz.prog 68 = true := by kernel_rfl
theorem map_68 : tyMap Tryz.prog 68 = none := by kernel_rfl
theorem fd_68_0 : tyField Tryz.prog 68 0 = some (0, 31, 4) := by kernel_rfl
theorem fd_68_1 : tyField Tryz.prog 68 1 = some (4, 31, 4) := by kernel_rfl
theorem pl_68 : tyPlaces Tryz.prog 68 = some [(0, 4), (4, 4)] := by kernel_rfl
def ty_68 := And.intro und_68 <| And.intro agg_68 <| And.intro sz_68 <| And.intro by_68 <| And.intro zero_68 <| And.intro elem_68 <| And.intro arr_68 <| And.intro int_68 <| And.intro str_68 <| And.intro bool_68 <| And.intro ptr_68 <| And.intro zag_68 <| And.intro map_68 <| And.intro fd_68_0 <| And.intro fd_68_1 <| pl_68
theorem und_69 : (Program.underlying Tryz.prog 69).isSome = true := by kernel_rfl
theorem agg_69 : tyAgg Tryz.prog 69 = some false := by kernel_rfl
theorem sz_69 : tySize Tryz.prog 69 = some 1 := by kernel_rfl
theorem by_69 : tyBytes Tryz.prog 69 = some 24 := by kernel_rfl
theorem zero_69 : tyZero Tryz.prog 69 = some [.nilsl] := by kernel_rfl
theorem elem_69 : tyElem Tryz.prog 69 = some 3 := by kernel_rfl
theorem arr_69 : tyArr Tryz.prog 69 = none := by kernel_rfl
theorem int_69 : tyInt Tryz.prog 69 = none := by kernel_rfl
theorem str_69 : tyStr Tryz.prog 69 = false := by kernel_rfl
theorem bool_69 : tyBool Tryz.prog 69 = false := by kernel_rfl
theorem ptr_69 : tyPtr Tryz.prog 69 = false := by kernel_rfl
theorem zag_69 : tyZag Tryz.prog 69 = false := by kernel_rfl
theorem map_69 : tyMap Tryz.prog 69 = none := by kernel_rfl
theorem pl_69 : tyPlaces Tryz.prog 69 = none := by kernel_rfl
def ty_69 := And.intro und_69 <| And.intro agg_69 <| And.intro sz_69 <| And.intro by_69 <| And.intro zero_69 <| And.intro elem_69 <| And.intro arr_69 <| And.intro int_69 <| And.intro str_69 <| And.intro bool_69 <| And.intro ptr_69 <| And.intro zag_69 <| And.intro map_69 <| pl_69
theorem und_74 : (Program.underlying Tryz.prog 74).isSome = true := by kernel_rfl
theorem agg_74 : tyAgg Tryz.prog 74 = some true := by kernel_rfl
theorem sz_74 : tySize Tryz.prog 74 = some 3 := by kernel_rfl
theorem by_74 : tyBytes Tryz.prog 74 = some 32 := by kernel_rfl
theorem zero_74 : tyZero Tryz.prog 74 = some [.c (.int .i64 0), .c (.int .i64 0), .c (.str [])] := by kernel_rfl
theorem elem_74 : tyElem Tryz.prog 74 = none := by kernel_rfl
theorem arr_74 : tyArr Tryz.prog 74 = none := by kernel_rfl
theorem int_74 : tyInt Tryz.prog 74 = none := by kernel_rfl
theorem str_74 : tyStr Tryz.prog 74 = false := by kernel_rfl
theorem bool_74 : tyBool Tryz.prog 74 = false := by kernel_rfl
theorem ptr_74 : tyPtr Tryz.prog 74 = false := by kernel_rfl
theorem zag_74 : tyZag Tryz.prog 74 = true := by kernel_rfl
theorem map_74 : tyMap Tryz.prog 74 = none := by kernel_rfl
theorem fd_74_0 : tyField Tryz.prog 74 0 = some (0, 3, 1) := by kernel_rfl
theorem fd_74_1 : tyField Tryz.prog 74 1 = some (1, 3, 1) := by kernel_rfl
theorem fd_74_2 : tyField Tryz.prog 74 2 = some (2, 9, 1) := by kernel_rfl
theorem pl_74 : tyPlaces Tryz.prog 74 = some [(0, 1), (1, 1), (2, 1)] := by kernel_rfl
def ty_74 := And.intro und_74 <| And.intro agg_74 <| And.intro sz_74 <| And.intro by_74 <| And.intro zero_74 <| And.intro elem_74 <| And.intro arr_74 <| And.intro int_74 <| And.intro str_74 <| And.intro bool_74 <| And.intro ptr_74 <| And.intro zag_74 <| And.intro map_74 <| And.intro fd_74_0 <| And.intro fd_74_1 <| And.intro fd_74_2 <| pl_74
theorem und_97 : (Program.underlying Tryz.prog 97).isSome = true := by kernel_rfl
theorem agg_97 : tyAgg Tryz.prog 97 = some true := by kernel_rfl
theorem sz_97 : tySize Tryz.prog 97 = some 7 := by kernel_rfl
theorem by_97 : tyBytes Tryz.prog 97 = some 72 := by kernel_rfl
theorem zero_97 : tyZero Tryz.prog 97 = some [.c (.int .i64 0), .c (.int .i64 0), .c (.int .i64 0), .c (.str []), .c (.int .i64 0), .c (.int .i64 0), .c (.str [])] := by kernel_rfl
theorem elem_97 : tyElem Tryz.prog 97 = none := by kernel_rfl
theorem arr_97 : tyArr Tryz.prog 97 = none := by kernel_rfl
theorem int_97 : tyInt Tryz.prog 97 = none := by kernel_rfl
theorem str_97 : tyStr Tryz.prog 97 = false := by kernel_rfl
theorem bool_97 : tyBool Tryz.prog 97 = false := by kernel_rfl
theorem ptr_97 : tyPtr Tryz.prog 97 = false := by kernel_rfl
theorem zag_97 : tyZag Tryz.prog 97 = true := by kernel_rfl
theorem map_97 : tyMap Tryz.prog 97 = none := by kernel_rfl
theorem fd_97_0 : tyField Tryz.prog 97 0 = some (0, 3, 1) := by kernel_rfl
theorem fd_97_1 : tyField Tryz.prog 97 1 = some (1, 3, 1) := by kernel_rfl
theorem fd_97_2 : tyField Tryz.prog 97 2 = some (2, 3, 1) := by kernel_rfl
theorem fd_97_3 : tyField Tryz.prog 97 3 = some (3, 9, 1) := by kernel_rfl
theorem fd_97_4 : tyField Tryz.prog 97 4 = some (4, 3, 1) := by kernel_rfl
theorem fd_97_5 : tyField Tryz.prog 97 5 = some (5, 3, 1) := by kernel_rfl
theorem fd_97_6 : tyField Tryz.prog 97 6 = some (6, 9, 1) := by kernel_rfl
theorem pl_97 : tyPlaces Tryz.prog 97 = some [(0, 1), (1, 1), (2, 1), (3, 1), (4, 1), (5, 1), (6, 1)] := by kernel_rfl
def ty_97 := And.intro und_97 <| And.intro agg_97 <| And.intro sz_97 <| And.intro by_97 <| And.intro zero_97 <| And.intro elem_97 <| And.intro arr_97 <| And.intro int_97 <| And.intro str_97 <| And.intro bool_97 <| And.intro ptr_97 <| And.intro zag_97 <| And.intro map_97 <| And.intro fd_97_0 <| And.intro fd_97_1 <| And.intro fd_97_2 <| And.intro fd_97_3 <| And.intro fd_97_4 <| And.intro fd_97_5 <| And.intro fd_97_6 <| pl_97
theorem und_101 : (Program.underlying Tryz.prog 101).isSome = true := by kernel_rfl
theorem agg_101 : tyAgg Tryz.prog 101 = some true := by kernel_rfl
theorem sz_101 : tySize Tryz.prog 101 = some 3 := by kernel_rfl
theorem by_101 : tyBytes Tryz.prog 101 = some 40 := by kernel_rfl
theorem zero_101 : tyZero Tryz.prog 101 = some [.nilsl, .c (.int .i64 0), .c (.bool false)] := by kernel_rfl
theorem elem_101 : tyElem Tryz.prog 101 = none := by kernel_rfl
theorem arr_101 : tyArr Tryz.prog 101 = none := by kernel_rfl
theorem int_101 : tyInt Tryz.prog 101 = none := by kernel_rfl
theorem str_101 : tyStr Tryz.prog 101 = false := by kernel_rfl
theorem bool_101 : tyBool Tryz.prog 101 = false := by kernel_rfl
theorem ptr_101 : tyPtr Tryz.prog 101 = false := by kernel_rfl
theorem zag_101 : tyZag Tryz.prog 101 = true := by kernel_rfl
theorem map_101 : tyMap Tryz.prog 101 = none := by kernel_rfl
theorem fd_101_0 : tyField Tryz.prog 101 0 = some (0, 47, 1) := by kernel_rfl
theorem fd_101_1 : tyField Tryz.prog 101 1 = some (1, 37, 1) := by kernel_rfl
theorem fd_101_2 : tyField Tryz.prog 101 2 = some (2, 4, 1) := by kernel_rfl
theorem pl_101 : tyPlaces Tryz.prog 101 = some [(0, 1), (1, 1), (2, 1)] := by kernel_rfl
def ty_101 := And.intro und_101 <| And.intro agg_101 <| And.intro sz_101 <| And.intro by_101 <| And.intro zero_101 <| And.intro elem_101 <| And.intro arr_101 <| And.intro int_101 <| And.intro str_101 <| And.intro bool_101 <| And.intro ptr_101 <| And.intro zag_101 <| And.intro map_101 <| And.intro fd_101_0 <| And.intro fd_101_1 <| And.intro fd_101_2 <| pl_101
theorem und_119 : (Program.underlying Tryz.prog 119).isSome = true := by kernel_rfl
theorem agg_119 : tyAgg Tryz.prog 119 = some false := by kernel_rfl
theorem sz_119 : tySize Tryz.prog 119 = some 1 := by kernel_rfl
theorem by_119 : tyBytes Tryz.prog 119 = some 8 := by kernel_rfl
theorem zero_119 : tyZero Tryz.prog 119 = some [.nilmp] := by kernel_rfl
theorem elem_119 : tyElem Tryz.prog 119 = none := by kernel_rfl
theorem arr_119 : tyArr Tryz.prog 119 = none := by kernel_rfl
theorem int_119 : tyInt Tryz.prog 119 = none := by kernel_rfl
theorem str_119 : tyStr Tryz.prog 119 = false := by kernel_rfl
theorem bool_119 : tyBool Tryz.prog 119 = false := by kernel_rfl
theorem ptr_119 : tyPtr Tryz.prog 119 = false := by kernel_rfl
theorem zag_119 : tyZag Tryz.prog 119 = false := by kernel_rfl
theorem map_119 : tyMap Tryz.prog 119 = some (9, 33) := by kernel_rfl
theorem pl_119 : tyPlaces Tryz.prog 119 = none := by kernel_rfl
def ty_119 := And.intro und_119 <| And.intro agg_119 <| And.intro sz_119 <| And.intro by_119 <| And.intro zero_119 <| And.intro elem_119 <| And.intro arr_119 <| And.intro int_119 <| And.intro str_119 <| And.intro bool_119 <| And.intro ptr_119 <| And.intro zag_119 <| And.intro map_119 <| pl_119
theorem und_121 : (Program.underlying Tryz.prog 121).isSome = true := by kernel_rfl
theorem agg_121 : tyAgg Tryz.prog 121 = some true := by kernel_rfl
theorem sz_121 : tySize Tryz.prog 121 = some 1 := by kernel_rfl
theorem by_121 : tyBytes Tryz.prog 121 = some 8 := by kernel_rfl
theorem zero_121 : tyZero Tryz.prog 121 = some [.nilmp] := by kernel_rfl
theorem elem_121 : tyElem Tryz.prog 121 = none := by kernel_rfl
theorem arr_121 : tyArr Tryz.prog 121 = none := by kernel_rfl
theorem int_121 : tyInt Tryz.prog 121 = none := by kernel_rfl
theorem str_121 : tyStr Tryz.prog 121 = false := by kernel_rfl
theorem bool_121 : tyBool Tryz.prog 121 = false := by kernel_rfl
theorem ptr_121 : tyPtr Tryz.prog 121 = false := by kernel_rfl
theorem zag_121 : tyZag Tryz.prog 121 = true := by kernel_rfl
theorem map_121 : tyMap Tryz.prog 121 = none := by kernel_rfl
theorem fd_121_0 : tyField Tryz.prog 121 0 = some (0, 119, 1) := by kernel_rfl
theorem pl_121 : tyPlaces Tryz.prog 121 = some [(0, 1)] := by kernel_rfl
def ty_121 := And.intro und_121 <| And.intro agg_121 <| And.intro sz_121 <| And.intro by_121 <| And.intro zero_121 <| And.intro elem_121 <| And.intro arr_121 <| And.intro int_121 <| And.intro str_121 <| And.intro bool_121 <| And.intro ptr_121 <| And.intro zag_121 <| And.intro map_121 <| And.intro fd_121_0 <| pl_121
theorem und_159 : (Program.underlying Tryz.prog 159).isSome = true := by kernel_rfl
theorem agg_159 : tyAgg Tryz.prog 159 = some false := by kernel_rfl
theorem sz_159 : tySize Tryz.prog 159 = some 1 := by kernel_rfl
theorem by_159 : tyBytes Tryz.prog 159 = some 24 := by kernel_rfl
theorem zero_159 : tyZero Tryz.prog 159 = some [.nilsl] := by kernel_rfl
theorem elem_159 : tyElem Tryz.prog 159 = some 47 := by kernel_rfl
theorem arr_159 : tyArr Tryz.prog 159 = none := by kernel_rfl
theorem int_159 : tyInt Tryz.prog 159 = none := by kernel_rfl
theorem str_159 : tyStr Tryz.prog 159 = false := by kernel_rfl
theorem bool_159 : tyBool Tryz.prog 159 = false := by kernel_rfl
theorem ptr_159 : tyPtr Tryz.prog 159 = false := by kernel_rfl
theorem zag_159 : tyZag Tryz.prog 159 = false := by kernel_rfl
theorem map_159 : tyMap Tryz.prog 159 = none := by kernel_rfl
theorem pl_159 : tyPlaces Tryz.prog 159 = none := by kernel_rfl
def ty_159 := And.intro und_159 <| And.intro agg_159 <| And.intro sz_159 <| And.intro by_159 <| And.intro zero_159 <| And.intro elem_159 <| And.intro arr_159 <| And.intro int_159 <| And.intro str_159 <| And.intro bool_159 <| And.intro ptr_159 <| And.intro zag_159 <| And.intro map_159 <| pl_159
theorem und_161 : (Program.underlying Tryz.prog 161).isSome = true := by kernel_rfl
theorem agg_161 : tyAgg Tryz.prog 161 = some false := by kernel_rfl
theorem sz_161 : tySize Tryz.prog 161 = some 1 := by kernel_rfl
theorem by_161 : tyBytes Tryz.prog 161 = some 4 := by kernel_rfl
theorem zero_161 : tyZero Tryz.prog 161 = some [.c (.int .u32 0)] := by kernel_rfl
theorem elem_161 : tyElem Tryz.prog 161 = none := by kernel_rfl
theorem arr_161 : tyArr Tryz.prog 161 = none := by kernel_rfl
theorem int_161 : tyInt Tryz.prog 161 = some .u32 := by kernel_rfl
theorem str_161 : tyStr Tryz.prog 161 = false := by kernel_rfl
theorem bool_161 : tyBool Tryz.prog 161 = false := by kernel_rfl
theorem ptr_161 : tyPtr Tryz.prog 161 = false := by kernel_rfl
theorem zag_161 : tyZag Tryz.prog 161 = false := by kernel_rfl
theorem map_161 : tyMap Tryz.prog 161 = none := by kernel_rfl
theorem pl_161 : tyPlaces Tryz.prog 161 = none := by kernel_rfl
def ty_161 := And.intro und_161 <| And.intro agg_161 <| And.intro sz_161 <| And.intro by_161 <| And.intro zero_161 <| And.intro elem_161 <| And.intro arr_161 <| And.intro int_161 <| And.intro str_161 <| And.intro bool_161 <| And.intro ptr_161 <| And.intro zag_161 <| And.intro map_161 <| pl_161
theorem und_162 : (Program.underlying Tryz.prog 162).isSome = true := by kernel_rfl
theorem agg_162 : tyAgg Tryz.prog 162 = some true := by kernel_rfl
theorem sz_162 : tySize Tryz.prog 162 = some 64 := by kernel_rfl
theorem by_162 : tyBytes Tryz.prog 162 = some 256 := by kernel_rfl
theorem zero_162 : tyZero Tryz.prog 162 = some (zrep 64 (.c (.int .u32 0))) := by kernel_rfl
theorem elem_162 : tyElem Tryz.prog 162 = none := by kernel_rfl
theorem arr_162 : tyArr Tryz.prog 162 = some (64, 161) := by kernel_rfl
theorem int_162 : tyInt Tryz.prog 162 = none := by kernel_rfl
theorem str_162 : tyStr Tryz.prog 162 = false := by kernel_rfl
theorem bool_162 : tyBool Tryz.prog 162 = false := by kernel_rfl
theorem ptr_162 : tyPtr Tryz.prog 162 = false := by kernel_rfl
theorem zag_162 : tyZag Tryz.prog 162 = true := by kernel_rfl
theorem map_162 : tyMap Tryz.prog 162 = none := by kernel_rfl
theorem pl_162 : tyPlaces Tryz.prog 162 = none := by kernel_rfl
def ty_162 := And.intro und_162 <| And.intro agg_162 <| And.intro sz_162 <| And.intro by_162 <| And.intro zero_162 <| And.intro elem_162 <| And.intro arr_162 <| And.intro int_162 <| And.intro str_162 <| And.intro bool_162 <| And.intro ptr_162 <| And.intro zag_162 <| And.intro map_162 <| pl_162
theorem und_164 : (Program.underlying Tryz.prog 164).isSome = true := by kernel_rfl
theorem agg_164 : tyAgg Tryz.prog 164 = some true := by kernel_rfl
theorem sz_164 : tySize Tryz.prog 164 = some 8 := by kernel_rfl
theorem by_164 : tyBytes Tryz.prog 164 = some 32 := by kernel_rfl
theorem zero_164 : tyZero Tryz.prog 164 = some [.c (.int .u32 0), .c (.int .u32 0), .c (.int .u32 0), .c (.int .u32 0), .c (.int .u32 0), .c (.int .u32 0), .c (.int .u32 0), .c (.int .u32 0)] := by kernel_rfl
theorem elem_164 : tyElem Tryz.prog 164 = none := by kernel_rfl
theorem arr_164 : tyArr Tryz.prog 164 = some (8, 161) := by kernel_rfl
theorem int_164 : tyInt Tryz.prog 164 = none := by kernel_rfl
theorem str_164 : tyStr Tryz.prog 164 = false := by kernel_rfl
theorem bool_164 : tyBool Tryz.prog 164 = false := by kernel_rfl
theorem ptr_164 : tyPtr Tryz.prog 164 = false := by kernel_rfl
theorem zag_164 : tyZag Tryz.prog 164 = true := by kernel_rfl
theorem map_164 : tyMap Tryz.prog 164 = none := by kernel_rfl
theorem pl_164 : tyPlaces Tryz.prog 164 = none := by kernel_rfl
def ty_164 := And.intro und_164 <| And.intro agg_164 <| And.intro sz_164 <| And.intro by_164 <| And.intro zero_164 <| And.intro elem_164 <| And.intro arr_164 <| And.intro int_164 <| And.intro str_164 <| And.intro bool_164 <| And.intro ptr_164 <| And.intro zag_164 <| And.intro map_164 <| pl_164
theorem und_165 : (Program.underlying Tryz.prog 165).isSome = true := by kernel_rfl
theorem agg_165 : tyAgg Tryz.prog 165 = some false := by kernel_rfl
theorem sz_165 : tySize Tryz.prog 165 = some 1 := by kernel_rfl
theorem by_165 : tyBytes Tryz.prog 165 = some 8 := by kernel_rfl
theorem zero_165 : tyZero Tryz.prog 165 = some [.c (.int .u64 0)] := by kernel_rfl
theorem elem_165 : tyElem Tryz.prog 165 = none := by kernel_rfl
theorem arr_165 : tyArr Tryz.prog 165 = none := by kernel_rfl
theorem int_165 : tyInt Tryz.prog 165 = some .u64 := by kernel_rfl
theorem str_165 : tyStr Tryz.prog 165 = false := by kernel_rfl
theorem bool_165 : tyBool Tryz.prog 165 = false := by kernel_rfl
theorem ptr_165 : tyPtr Tryz.prog 165 = false := by kernel_rfl
theorem zag_165 : tyZag Tryz.prog 165 = false := by kernel_rfl
theorem map_165 : tyMap Tryz.prog 165 = none := by kernel_rfl
theorem pl_165 : tyPlaces Tryz.prog 165 = none := by kernel_rfl
def ty_165 := And.intro und_165 <| And.intro agg_165 <| And.intro sz_165 <| And.intro by_165 <| And.intro zero_165 <| And.intro elem_165 <| And.intro arr_165 <| And.intro int_165 <| And.intro str_165 <| And.intro bool_165 <| And.intro ptr_165 <| And.intro zag_165 <| And.intro map_165 <| pl_165
theorem und_170 : (Program.underlying Tryz.prog 170).isSome = true := by kernel_rfl
theorem agg_170 : tyAgg Tryz.prog 170 = some true := by kernel_rfl
theorem sz_170 : tySize Tryz.prog 170 = some 2 := by kernel_rfl
theorem by_170 : tyBytes Tryz.prog 170 = some 32 := by kernel_rfl
theorem zero_170 : tyZero Tryz.prog 170 = some [.nilsl, .c (.int .i64 0)] := by kernel_rfl
theorem elem_170 : tyElem Tryz.prog 170 = none := by kernel_rfl
theorem arr_170 : tyArr Tryz.prog 170 = none := by kernel_rfl
theorem int_170 : tyInt Tryz.prog 170 = none := by kernel_rfl
theorem str_170 : tyStr Tryz.prog 170 = false := by kernel_rfl
theorem bool_170 : tyBool Tryz.prog 170 = false := by kernel_rfl
theorem ptr_170 : tyPtr Tryz.prog 170 = false := by kernel_rfl
theorem zag_170 : tyZag Tryz.prog 170 = true := by kernel_rfl
theorem map_170 : tyMap Tryz.prog 170 = none := by kernel_rfl
theorem fd_170_0 : tyField Tryz.prog 170 0 = some (0, 47, 1) := by kernel_rfl
theorem fd_170_1 : tyField Tryz.prog 170 1 = some (1, 3, 1) := by kernel_rfl
theorem pl_170 : tyPlaces Tryz.prog 170 = some [(0, 1), (1, 1)] := by kernel_rfl
def ty_170 := And.intro und_170 <| And.intro agg_170 <| And.intro sz_170 <| And.intro by_170 <| And.intro zero_170 <| And.intro elem_170 <| And.intro arr_170 <| And.intro int_170 <| And.intro str_170 <| And.intro bool_170 <| And.intro ptr_170 <| And.intro zag_170 <| And.intro map_170 <| And.intro fd_170_0 <| And.intro fd_170_1 <| pl_170
theorem und_195 : (Program.underlying Tryz.prog 195).isSome = true := by kernel_rfl
theorem agg_195 : tyAgg Tryz.prog 195 = some false := by kernel_rfl
theorem sz_195 : tySize Tryz.prog 195 = some 1 := by kernel_rfl
theorem by_195 : tyBytes Tryz.prog 195 = some 8 := by kernel_rfl
theorem zero_195 : tyZero Tryz.prog 195 = some [.c (.int .u64 0)] := by kernel_rfl
theorem elem_195 : tyElem Tryz.prog 195 = none := by kernel_rfl
theorem arr_195 : tyArr Tryz.prog 195 = none := by kernel_rfl
theorem int_195 : tyInt Tryz.prog 195 = some .u64 := by kernel_rfl
theorem str_195 : tyStr Tryz.prog 195 = false := by kernel_rfl
theorem bool_195 : tyBool Tryz.prog 195 = false := by kernel_rfl
theorem ptr_195 : tyPtr Tryz.prog 195 = false := by kernel_rfl
theorem zag_195 : tyZag Tryz.prog 195 = false := by kernel_rfl
theorem map_195 : tyMap Tryz.prog 195 = none := by kernel_rfl
theorem pl_195 : tyPlaces Tryz.prog 195 = none := by kernel_rfl
def ty_195 := And.intro und_195 <| And.intro agg_195 <| And.intro sz_195 <| And.intro by_195 <| And.intro zero_195 <| And.intro elem_195 <| And.intro arr_195 <| And.intro int_195 <| And.intro str_195 <| And.intro bool_195 <| And.intro ptr_195 <| And.intro zag_195 <| And.intro map_195 <| pl_195
theorem und_202 : (Program.underlying Tryz.prog 202).isSome = true := by kernel_rfl
theorem agg_202 : tyAgg Tryz.prog 202 = some true := by kernel_rfl
theorem sz_202 : tySize Tryz.prog 202 = some 8 := by kernel_rfl
theorem by_202 : tyBytes Tryz.prog 202 = some 32 := by kernel_rfl
theorem zero_202 : tyZero Tryz.prog 202 = some [.c (.int .u32 0), .c (.int .u32 0), .c (.int .u32 0), .c (.int .u32 0), .c (.int .u32 0), .c (.int .u32 0), .c (.int .u32 0), .c (.int .u32 0)] := by kernel_rfl
theorem elem_202 : tyElem Tryz.prog 202 = none := by kernel_rfl
theorem arr_202 : tyArr Tryz.prog 202 = some (8, 161) := by kernel_rfl
theorem int_202 : tyInt Tryz.prog 202 = none := by kernel_rfl
theorem str_202 : tyStr Tryz.prog 202 = false := by kernel_rfl
theorem bool_202 : tyBool Tryz.prog 202 = false := by kernel_rfl
theorem ptr_202 : tyPtr Tryz.prog 202 = false := by kernel_rfl
theorem zag_202 : tyZag Tryz.prog 202 = true := by kernel_rfl
theorem map_202 : tyMap Tryz.prog 202 = none := by kernel_rfl
theorem pl_202 : tyPlaces Tryz.prog 202 = none := by kernel_rfl
def ty_202 := And.intro und_202 <| And.intro agg_202 <| And.intro sz_202 <| And.intro by_202 <| And.intro zero_202 <| And.intro elem_202 <| And.intro arr_202 <| And.intro int_202 <| And.intro str_202 <| And.intro bool_202 <| And.intro ptr_202 <| And.intro zag_202 <| And.intro map_202 <| pl_202
theorem und_205 : (Program.underlying Tryz.prog 205).isSome = true := by kernel_rfl
theorem agg_205 : tyAgg Tryz.prog 205 = some false := by kernel_rfl
theorem sz_205 : tySize Tryz.prog 205 = some 1 := by kernel_rfl
theorem by_205 : tyBytes Tryz.prog 205 = some 8 := by kernel_rfl
theorem zero_205 : tyZero Tryz.prog 205 = some [.nilptr] := by kernel_rfl
theorem elem_205 : tyElem Tryz.prog 205 = none := by kernel_rfl
theorem arr_205 : tyArr Tryz.prog 205 = none := by kernel_rfl
theorem int_205 : tyInt Tryz.prog 205 = none := by kernel_rfl
theorem str_205 : tyStr Tryz.prog 205 = false := by kernel_rfl
theorem bool_205 : tyBool Tryz.prog 205 = false := by kernel_rfl
theorem ptr_205 : tyPtr Tryz.prog 205 = true := by kernel_rfl
theorem zag_205 : tyZag Tryz.prog 205 = false := by kernel_rfl
theorem map_205 : tyMap Tryz.prog 205 = none := by kernel_rfl
theorem pl_205 : tyPlaces Tryz.prog 205 = none := by kernel_rfl
def ty_205 := And.intro und_205 <| And.intro agg_205 <| And.intro sz_205 <| And.intro by_205 <| And.intro zero_205 <| And.intro elem_205 <| And.intro arr_205 <| And.intro int_205 <| And.intro str_205 <| And.intro bool_205 <| And.intro ptr_205 <| And.intro zag_205 <| And.intro map_205 <| pl_205
theorem und_207 : (Program.underlying Tryz.prog 207).isSome = true := by kernel_rfl
theorem agg_207 : tyAgg Tryz.prog 207 = some false := by kernel_rfl
theorem sz_207 : tySize Tryz.prog 207 = some 1 := by kernel_rfl
theorem by_207 : tyBytes Tryz.prog 207 = some 24 := by kernel_rfl
theorem zero_207 : tyZero Tryz.prog 207 = some [.nilsl] := by kernel_rfl
theorem elem_207 : tyElem Tryz.prog 207 = some 161 := by kernel_rfl
theorem arr_207 : tyArr Tryz.prog 207 = none := by kernel_rfl
theorem int_207 : tyInt Tryz.prog 207 = none := by kernel_rfl
theorem str_207 : tyStr Tryz.prog 207 = false := by kernel_rfl
theorem bool_207 : tyBool Tryz.prog 207 = false := by kernel_rfl
theorem ptr_207 : tyPtr Tryz.prog 207 = false := by kernel_rfl
theorem zag_207 : tyZag Tryz.prog 207 = false := by kernel_rfl
theorem map_207 : tyMap Tryz.prog 207 = none := by kernel_rfl
theorem pl_207 : tyPlaces Tryz.prog 207 = none := by kernel_rfl
def ty_207 := And.intro und_207 <| And.intro agg_207 <| And.intro sz_207 <| And.intro by_207 <| And.intro zero_207 <| And.intro elem_207 <| And.intro arr_207 <| And.intro int_207 <| And.intro str_207 <| And.intro bool_207 <| And.intro ptr_207 <| And.intro zag_207 <| And.intro map_207 <| pl_207
theorem und_242 : (Program.underlying Tryz.prog 242).isSome = true := by kernel_rfl
theorem agg_242 : tyAgg Tryz.prog 242 = some true := by kernel_rfl
theorem sz_242 : tySize Tryz.prog 242 = some 4 := by kernel_rfl
theorem by_242 : tyBytes Tryz.prog 242 = some 32 := by kernel_rfl
theorem zero_242 : tyZero Tryz.prog 242 = some [.c (.int .i64 0), .c (.int .i64 0), .c (.int .i64 0), .c (.int .i64 0)] := by kernel_rfl
theorem elem_242 : tyElem Tryz.prog 242 = none := by kernel_rfl
theorem arr_242 : tyArr Tryz.prog 242 = some (4, 3) := by kernel_rfl
theorem int_242 : tyInt Tryz.prog 242 = none := by kernel_rfl
theorem str_242 : tyStr Tryz.prog 242 = false := by kernel_rfl
theorem bool_242 : tyBool Tryz.prog 242 = false := by kernel_rfl
theorem ptr_242 : tyPtr Tryz.prog 242 = false := by kernel_rfl
theorem zag_242 : tyZag Tryz.prog 242 = true := by kernel_rfl
theorem map_242 : tyMap Tryz.prog 242 = none := by kernel_rfl
theorem pl_242 : tyPlaces Tryz.prog 242 = none := by kernel_rfl
def ty_242 := And.intro und_242 <| And.intro agg_242 <| And.intro sz_242 <| And.intro by_242 <| And.intro zero_242 <| And.intro elem_242 <| And.intro arr_242 <| And.intro int_242 <| And.intro str_242 <| And.intro bool_242 <| And.intro ptr_242 <| And.intro zag_242 <| And.intro map_242 <| pl_242
theorem nt_4 : Tryz.f4.ntmps = 141 := by kernel_rfl
theorem rs_4 : Tryz.f4.results.toList = [.tmp 6] := by kernel_rfl
theorem nt_9 : Tryz.f9.ntmps = 3 := by kernel_rfl
theorem rs_9 : Tryz.f9.results.toList = [.tmp 0] := by kernel_rfl
theorem nt_10 : Tryz.f10.ntmps = 54 := by kernel_rfl
theorem rs_10 : Tryz.f10.results.toList = [.tmp 2] := by kernel_rfl
theorem nt_13 : Tryz.f13.ntmps = 3 := by kernel_rfl
theorem rs_13 : Tryz.f13.results.toList = [.tmp 0] := by kernel_rfl
theorem nt_15 : Tryz.f15.ntmps = 36 := by kernel_rfl
theorem rs_15 : Tryz.f15.results.toList = [.tmp 2, .tmp 3] := by kernel_rfl
theorem nt_16 : Tryz.f16.ntmps = 10 := by kernel_rfl
theorem rs_16 : Tryz.f16.results.toList = [.tmp 2] := by kernel_rfl
theorem nt_17 : Tryz.f17.ntmps = 10 := by kernel_rfl
theorem rs_17 : Tryz.f17.results.toList = [.tmp 2] := by kernel_rfl
theorem nt_22 : Tryz.f22.ntmps = 3 := by kernel_rfl
theorem rs_22 : Tryz.f22.results.toList = [.tmp 0] := by kernel_rfl
theorem nt_23 : Tryz.f23.ntmps = 4 := by kernel_rfl
theorem rs_23 : Tryz.f23.results.toList = [.tmp 0] := by kernel_rfl
theorem nt_24 : Tryz.f24.ntmps = 40 := by kernel_rfl
theorem rs_24 : Tryz.f24.results.toList = [.tmp 4] := by kernel_rfl
theorem nt_25 : Tryz.f25.ntmps = 53 := by kernel_rfl
theorem rs_25 : Tryz.f25.results.toList = [.tmp 8] := by kernel_rfl
theorem nt_26 : Tryz.f26.ntmps = 96 := by kernel_rfl
theorem rs_26 : Tryz.f26.results.toList = [.tmp 6] := by kernel_rfl
theorem nt_27 : Tryz.f27.ntmps = 41 := by kernel_rfl
theorem rs_27 : Tryz.f27.results.toList = [.tmp 6] := by kernel_rfl
theorem nt_28 : Tryz.f28.ntmps = 31 := by kernel_rfl
theorem rs_28 : Tryz.f28.results.toList = [.tmp 4] := by kernel_rfl
theorem nt_30 : Tryz.f30.ntmps = 25 := by kernel_rfl
theorem rs_30 : Tryz.f30.results.toList = [.tmp 4] := by kernel_rfl
theorem nt_42 : Tryz.f42.ntmps = 3 := by kernel_rfl
theorem rs_42 : Tryz.f42.results.toList = [.tmp 0] := by kernel_rfl
theorem nt_43 : Tryz.f43.ntmps = 9 := by kernel_rfl
theorem rs_43 : Tryz.f43.results.toList = [.tmp 2] := by kernel_rfl
theorem nt_45 : Tryz.f45.ntmps = 75 := by kernel_rfl
theorem rs_45 : Tryz.f45.results.toList = [.tmp 2] := by kernel_rfl
theorem nt_47 : Tryz.f47.ntmps = 8 := by kernel_rfl
theorem rs_47 : Tryz.f47.results.toList = [.tmp 2] := by kernel_rfl
theorem nt_48 : Tryz.f48.ntmps = 8 := by kernel_rfl
theorem rs_48 : Tryz.f48.results.toList = [.tmp 2] := by kernel_rfl
theorem nt_51 : Tryz.f51.ntmps = 41 := by kernel_rfl
theorem rs_51 : Tryz.f51.results.toList = [] := by kernel_rfl
theorem nt_53 : Tryz.f53.ntmps = 40 := by kernel_rfl
theorem rs_53 : Tryz.f53.results.toList = [] := by kernel_rfl
theorem nt_54 : Tryz.f54.ntmps = 8 := by kernel_rfl
theorem rs_54 : Tryz.f54.results.toList = [.tmp 2] := by kernel_rfl
theorem nt_55 : Tryz.f55.ntmps = 7 := by kernel_rfl
theorem rs_55 : Tryz.f55.results.toList = [.tmp 2] := by kernel_rfl
theorem nt_56 : Tryz.f56.ntmps = 19 := by kernel_rfl
theorem rs_56 : Tryz.f56.results.toList = [.tmp 2] := by kernel_rfl
theorem nt_57 : Tryz.f57.ntmps = 83 := by kernel_rfl
theorem rs_57 : Tryz.f57.results.toList = [.tmp 2] := by kernel_rfl
theorem nt_58 : Tryz.f58.ntmps = 239 := by kernel_rfl
theorem rs_58 : Tryz.f58.results.toList = [.tmp 2] := by kernel_rfl
theorem nt_59 : Tryz.f59.ntmps = 16 := by kernel_rfl
theorem rs_59 : Tryz.f59.results.toList = [.tmp 2] := by kernel_rfl
theorem nt_65 : Tryz.f65.ntmps = 68 := by kernel_rfl
theorem rs_65 : Tryz.f65.results.toList = [.tmp 6] := by kernel_rfl
theorem nt_66 : Tryz.f66.ntmps = 9 := by kernel_rfl
theorem rs_66 : Tryz.f66.results.toList = [.tmp 4] := by kernel_rfl
theorem nt_69 : Tryz.f69.ntmps = 14 := by kernel_rfl
theorem rs_69 : Tryz.f69.results.toList = [.cell 2 33] := by kernel_rfl
theorem nt_70 : Tryz.f70.ntmps = 41 := by kernel_rfl
theorem rs_70 : Tryz.f70.results.toList = [.tmp 6] := by kernel_rfl
theorem nt_71 : Tryz.f71.ntmps = 8 := by kernel_rfl
theorem rs_71 : Tryz.f71.results.toList = [.cell 2 31] := by kernel_rfl
theorem nt_72 : Tryz.f72.ntmps = 31 := by kernel_rfl
theorem rs_72 : Tryz.f72.results.toList = [.tmp 4] := by kernel_rfl
theorem nt_73 : Tryz.f73.ntmps = 95 := by kernel_rfl
theorem rs_73 : Tryz.f73.results.toList = [.tmp 4, .tmp 5] := by kernel_rfl
theorem nt_74 : Tryz.f74.ntmps = 29 := by kernel_rfl
theorem rs_74 : Tryz.f74.results.toList = [.tmp 6] := by kernel_rfl
theorem nt_75 : Tryz.f75.ntmps = 26 := by kernel_rfl
theorem rs_75 : Tryz.f75.results.toList = [.tmp 4] := by kernel_rfl
theorem nt_76 : Tryz.f76.ntmps = 19 := by kernel_rfl
theorem rs_76 : Tryz.f76.results.toList = [.cell 4 97, .tmp 5] := by kernel_rfl
theorem nt_80 : Tryz.f80.ntmps = 10 := by kernel_rfl
theorem rs_80 : Tryz.f80.results.toList = [.cell 2 74] := by kernel_rfl
theorem nt_81 : Tryz.f81.ntmps = 3 := by kernel_rfl
theorem rs_81 : Tryz.f81.results.toList = [.cell 0 31] := by kernel_rfl
theorem nt_85 : Tryz.f85.ntmps = 30 := by kernel_rfl
theorem rs_85 : Tryz.f85.results.toList = [.tmp 6] := by kernel_rfl
theorem nt_88 : Tryz.f88.ntmps = 67 := by kernel_rfl
theorem rs_88 : Tryz.f88.results.toList = [.tmp 8, .tmp 9] := by kernel_rfl
theorem nt_92 : Tryz.f92.ntmps = 6 := by kernel_rfl
theorem rs_92 : Tryz.f92.results.toList = [.tmp 2] := by kernel_rfl
theorem nt_93 : Tryz.f93.ntmps = 46 := by kernel_rfl
theorem rs_93 : Tryz.f93.results.toList = [.tmp 2] := by kernel_rfl
theorem nt_101 : Tryz.f101.ntmps = 40 := by kernel_rfl
theorem rs_101 : Tryz.f101.results.toList = [] := by kernel_rfl
theorem nt_102 : Tryz.f102.ntmps = 11 := by kernel_rfl
theorem rs_102 : Tryz.f102.results.toList = [] := by kernel_rfl
theorem nt_104 : Tryz.f104.ntmps = 13 := by kernel_rfl
theorem rs_104 : Tryz.f104.results.toList = [] := by kernel_rfl
theorem nt_105 : Tryz.f105.ntmps = 21 := by kernel_rfl
theorem rs_105 : Tryz.f105.results.toList = [.tmp 2] := by kernel_rfl
theorem nt_106 : Tryz.f106.ntmps = 5 := by kernel_rfl
theorem rs_106 : Tryz.f106.results.toList = [.tmp 2] := by kernel_rfl
theorem nt_107 : Tryz.f107.ntmps = 2 := by kernel_rfl
theorem rs_107 : Tryz.f107.results.toList = [.cell 0 162] := by kernel_rfl
theorem nt_108 : Tryz.f108.ntmps = 22 := by kernel_rfl
theorem rs_108 : Tryz.f108.results.toList = [.tmp 2] := by kernel_rfl
theorem nt_109 : Tryz.f109.ntmps = 13 := by kernel_rfl
theorem rs_109 : Tryz.f109.results.toList = [.tmp 4] := by kernel_rfl
theorem nt_110 : Tryz.f110.ntmps = 15 := by kernel_rfl
theorem rs_110 : Tryz.f110.results.toList = [.tmp 2, .tmp 3] := by kernel_rfl
theorem nt_111 : Tryz.f111.ntmps = 40 := by kernel_rfl
theorem rs_111 : Tryz.f111.results.toList = [.cell 4 170] := by kernel_rfl
theorem nt_113 : Tryz.f113.ntmps = 21 := by kernel_rfl
theorem rs_113 : Tryz.f113.results.toList = [.tmp 2] := by kernel_rfl
theorem nt_119 : Tryz.f119.ntmps = 45 := by kernel_rfl
theorem rs_119 : Tryz.f119.results.toList = [.tmp 8, .tmp 9] := by kernel_rfl
theorem nt_120 : Tryz.f120.ntmps = 4 := by kernel_rfl
theorem rs_120 : Tryz.f120.results.toList = [.tmp 2] := by kernel_rfl
theorem nt_121 : Tryz.f121.ntmps = 31 := by kernel_rfl
theorem rs_121 : Tryz.f121.results.toList = [.tmp 4] := by kernel_rfl
theorem nt_122 : Tryz.f122.ntmps = 19 := by kernel_rfl
theorem rs_122 : Tryz.f122.results.toList = [.tmp 4] := by kernel_rfl
theorem nt_124 : Tryz.f124.ntmps = 88 := by kernel_rfl
theorem rs_124 : Tryz.f124.results.toList = [.tmp 4, .tmp 5] := by kernel_rfl
theorem nt_125 : Tryz.f125.ntmps = 94 := by kernel_rfl
theorem rs_125 : Tryz.f125.results.toList = [.tmp 2] := by kernel_rfl
theorem nt_126 : Tryz.f126.ntmps = 10 := by kernel_rfl
theorem rs_126 : Tryz.f126.results.toList = [.tmp 2] := by kernel_rfl
theorem nt_127 : Tryz.f127.ntmps = 24 := by kernel_rfl
theorem rs_127 : Tryz.f127.results.toList = [.tmp 4] := by kernel_rfl
theorem nt_128 : Tryz.f128.ntmps = 19 := by kernel_rfl
theorem rs_128 : Tryz.f128.results.toList = [.tmp 4] := by kernel_rfl
theorem nt_129 : Tryz.f129.ntmps = 13 := by kernel_rfl
theorem rs_129 : Tryz.f129.results.toList = [.tmp 3] := by kernel_rfl
theorem nt_136 : Tryz.f136.ntmps = 9 := by kernel_rfl
theorem rs_136 : Tryz.f136.results.toList = [.tmp 4] := by kernel_rfl
theorem nt_137 : Tryz.f137.ntmps = 8 := by kernel_rfl
theorem rs_137 : Tryz.f137.results.toList = [.tmp 3] := by kernel_rfl
theorem nt_138 : Tryz.f138.ntmps = 22 := by kernel_rfl
theorem rs_138 : Tryz.f138.results.toList = [.cell 4 33, .tmp 5] := by kernel_rfl
theorem nt_139 : Tryz.f139.ntmps = 38 := by kernel_rfl
theorem rs_139 : Tryz.f139.results.toList = [.tmp 6] := by kernel_rfl
theorem nt_140 : Tryz.f140.ntmps = 37 := by kernel_rfl
theorem rs_140 : Tryz.f140.results.toList = [.tmp 4] := by kernel_rfl
theorem nt_142 : Tryz.f142.ntmps = 16 := by kernel_rfl
theorem rs_142 : Tryz.f142.results.toList = [.tmp 4] := by kernel_rfl
theorem nt_144 : Tryz.f144.ntmps = 19 := by kernel_rfl
theorem rs_144 : Tryz.f144.results.toList = [.tmp 2] := by kernel_rfl
theorem nt_145 : Tryz.f145.ntmps = 9 := by kernel_rfl
theorem rs_145 : Tryz.f145.results.toList = [.tmp 2] := by kernel_rfl
theorem nt_147 : Tryz.f147.ntmps = 28 := by kernel_rfl
theorem rs_147 : Tryz.f147.results.toList = [.tmp 2] := by kernel_rfl
theorem nt_151 : Tryz.f151.ntmps = 24 := by kernel_rfl
theorem rs_151 : Tryz.f151.results.toList = [] := by kernel_rfl
theorem nt_152 : Tryz.f152.ntmps = 30 := by kernel_rfl
theorem rs_152 : Tryz.f152.results.toList = [] := by kernel_rfl
theorem nt_153 : Tryz.f153.ntmps = 2 := by kernel_rfl
theorem rs_153 : Tryz.f153.results.toList = [.cell 0 202] := by kernel_rfl
theorem nt_154 : Tryz.f154.ntmps = 2 := by kernel_rfl
theorem rs_154 : Tryz.f154.results.toList = [.cell 0 162] := by kernel_rfl
theorem nt_155 : Tryz.f155.ntmps = 19 := by kernel_rfl
theorem rs_155 : Tryz.f155.results.toList = [.tmp 2] := by kernel_rfl
theorem nt_156 : Tryz.f156.ntmps = 119 := by kernel_rfl
theorem rs_156 : Tryz.f156.results.toList = [.cell 6 202] := by kernel_rfl
theorem nt_157 : Tryz.f157.ntmps = 32 := by kernel_rfl
theorem rs_157 : Tryz.f157.results.toList = [.tmp 2] := by kernel_rfl
theorem nt_159 : Tryz.f159.ntmps = 29 := by kernel_rfl
theorem rs_159 : Tryz.f159.results.toList = [.tmp 4] := by kernel_rfl
theorem nt_160 : Tryz.f160.ntmps = 29 := by kernel_rfl
theorem rs_160 : Tryz.f160.results.toList = [.cell 4 170] := by kernel_rfl
theorem nt_161 : Tryz.f161.ntmps = 29 := by kernel_rfl
theorem rs_161 : Tryz.f161.results.toList = [.cell 4 170] := by kernel_rfl
theorem nt_162 : Tryz.f162.ntmps = 11 := by kernel_rfl
theorem rs_162 : Tryz.f162.results.toList = [.cell 4 170] := by kernel_rfl
theorem nt_164 : Tryz.f164.ntmps = 13 := by kernel_rfl
theorem rs_164 : Tryz.f164.results.toList = [.tmp 2] := by kernel_rfl
theorem nt_165 : Tryz.f165.ntmps = 15 := by kernel_rfl
theorem rs_165 : Tryz.f165.results.toList = [.tmp 2] := by kernel_rfl
theorem nt_166 : Tryz.f166.ntmps = 36 := by kernel_rfl
theorem rs_166 : Tryz.f166.results.toList = [.tmp 6] := by kernel_rfl
theorem nt_167 : Tryz.f167.ntmps = 38 := by kernel_rfl
theorem rs_167 : Tryz.f167.results.toList = [.tmp 4] := by kernel_rfl
theorem nt_168 : Tryz.f168.ntmps = 13 := by kernel_rfl
theorem rs_168 : Tryz.f168.results.toList = [.tmp 3] := by kernel_rfl
theorem nt_169 : Tryz.f169.ntmps = 10 := by kernel_rfl
theorem rs_169 : Tryz.f169.results.toList = [.cell 2 74] := by kernel_rfl
theorem nt_170 : Tryz.f170.ntmps = 43 := by kernel_rfl
theorem rs_170 : Tryz.f170.results.toList = [.tmp 2] := by kernel_rfl
theorem nt_171 : Tryz.f171.ntmps = 19 := by kernel_rfl
theorem rs_171 : Tryz.f171.results.toList = [.tmp 2] := by kernel_rfl
theorem nt_172 : Tryz.f172.ntmps = 10 := by kernel_rfl
theorem rs_172 : Tryz.f172.results.toList = [.tmp 2] := by kernel_rfl
theorem nt_173 : Tryz.f173.ntmps = 19 := by kernel_rfl
theorem rs_173 : Tryz.f173.results.toList = [.tmp 4] := by kernel_rfl
theorem nt_174 : Tryz.f174.ntmps = 25 := by kernel_rfl
theorem rs_174 : Tryz.f174.results.toList = [.cell 4 170] := by kernel_rfl
theorem nt_194 : Tryz.f194.ntmps = 19 := by kernel_rfl
theorem rs_194 : Tryz.f194.results.toList = [.tmp 4] := by kernel_rfl
theorem nt_195 : Tryz.f195.ntmps = 7 := by kernel_rfl
theorem rs_195 : Tryz.f195.results.toList = [.tmp 2] := by kernel_rfl
theorem nt_196 : Tryz.f196.ntmps = 50 := by kernel_rfl
theorem rs_196 : Tryz.f196.results.toList = [.tmp 2] := by kernel_rfl
theorem nt_197 : Tryz.f197.ntmps = 19 := by kernel_rfl
theorem rs_197 : Tryz.f197.results.toList = [.tmp 4] := by kernel_rfl
theorem nt_198 : Tryz.f198.ntmps = 19 := by kernel_rfl
theorem rs_198 : Tryz.f198.results.toList = [.cell 4 170] := by kernel_rfl
theorem nt_199 : Tryz.f199.ntmps = 6 := by kernel_rfl
theorem rs_199 : Tryz.f199.results.toList = [.tmp 2] := by kernel_rfl
theorem nt_201 : Tryz.f201.ntmps = 27 := by kernel_rfl
theorem rs_201 : Tryz.f201.results.toList = [.tmp 4] := by kernel_rfl
theorem nt_202 : Tryz.f202.ntmps = 33 := by kernel_rfl
theorem rs_202 : Tryz.f202.results.toList = [.tmp 4] := by kernel_rfl
theorem nt_203 : Tryz.f203.ntmps = 64 := by kernel_rfl
theorem rs_203 : Tryz.f203.results.toList = [.cell 2 162] := by kernel_rfl
theorem nt_204 : Tryz.f204.ntmps = 9 := by kernel_rfl
theorem rs_204 : Tryz.f204.results.toList = [.tmp 4] := by kernel_rfl
theorem nt_206 : Tryz.f206.ntmps = 28 := by kernel_rfl
theorem rs_206 : Tryz.f206.results.toList = [.tmp 2] := by kernel_rfl
theorem nt_207 : Tryz.f207.ntmps = 17 := by kernel_rfl
theorem rs_207 : Tryz.f207.results.toList = [.tmp 2] := by kernel_rfl
theorem nt_218 : Tryz.f218.ntmps = 17 := by kernel_rfl
theorem rs_218 : Tryz.f218.results.toList = [.tmp 4] := by kernel_rfl
theorem nt_158 : Tryz.f158.ntmps = 36 := by kernel_rfl
theorem rs_158 : Tryz.f158.results.toList = [.tmp 2] := by kernel_rfl
theorem mixed : Tryz.prog.follows .mixedOrders = true := by kernel_rfl

def faultC : Contract := fun args objs => match args, objs with
  | [.ptr n 0, .c (.int .i64 e')], [[.own 1 rows, .c (.int .i64 e), .c (.bool made)]] =>
    if n = inObj 0 then some ⟨[], [[.own 1 rows, .c (.int .i64 (if e = 0 then e' else e)), .c (.bool made)]]⟩ else none
  | _, _ => none

theorem fault_sound : SoundC Tryz.prog 104 faultC := by
  refine sound_fn Tryz.func104 (by kernel_rfl) rfl rfl ?_
  intro args objs r hr
  unfold faultC at hr
  split at hr
  · rename_i n e' rows e made
    split at hr
    · rename_i hn
      subst hn
      cases hr
      refine ⟨rfl, by show 2 ≤ _; decide, fun E hN hns hF => ?_⟩
      refine vc_sound none0_sound mixed _ _ _ ?_
      have hN := hN.trans nt_104
      simp only [runA, runB, runC, runD, runE, runF, fieldE, storeE, binE, ↓reduceIte, Nat.reduceLT, Nat.reduceLeDiff, Nat.reduceEqDiff, Nat.reduceAdd, Nat.reduceMul, Nat.reduceSub, reduceCtorEq, putAt, unE, Nat.reduceBEq, convE, buildE, List.replicate, Int.reduceLT, Int.reduceLE, Int.reduceToNat, mkE, mapSetE, hN, hF, ty_4, ty_37, ty_47, ty_101]
      refine branch_intro (fun hc => ?_) (fun hc => ?_)
      all_goals
        simp only [beq_iff_eq, beq_eq_false_iff_ne, ne_eq] at hc
        simp only [runB, finC, finD, Option.isSome_some, Option.isSome_none, ↓reduceIte, Nat.reduceEqDiff, Nat.reduceAdd, Nat.reduceMul, forall_eq_or_imp, forall_eq, implies_true, Nat.reduceBEq, reduceCtorEq, false_implies, List.zip_cons_cons, List.zip_nil_left, List.zip_nil_right, Nat.reduceLeDiff, List.forall_mem_nil, rs_104, hc]
    · cases hr
  · cases hr


/-- A number's octets. -/
def putB (n : Int) (size : Int) : List UInt8 :=
  (List.range (min (max size 0) 8).toNat).map fun (i : Nat) => UInt8.ofNat ((IntKind.u64.wrap n).toNat / 256 ^ ((min (max size 0) 8).toNat - 1 - i) % 256)

def putC : Contract := fun args objs => match args, objs with
  | [.c (.int .i64 n), .c (.int .i64 size)], [] => if 0 ≤ size ∧ size ≤ 8 then some ⟨[.fresh 1 (bytes (putB n size))], []⟩ else none
  | _, _ => none

def cloneC : Contract := fun args objs => match args, objs with
  | [.c (.sl rows)], [] => if rowsOK 1 rows ∧ rows.length ≤ 140737488355328 then some ⟨[.fresh 1 rows], []⟩ else none
  | _, _ => none

theorem clone_sound : SoundC Tryz.prog 54 cloneC := by
  refine sound_fn Tryz.func54 (by kernel_rfl) rfl rfl ?_
  intro args objs r hr
  unfold cloneC at hr
  split at hr
  · rename_i rows
    split at hr
    · rename_i hc
      cases hr
      refine ⟨rfl, by show 1 ≤ _; decide, fun E hN hns hF => ?_⟩
      refine vc_sound none0_sound mixed _ _ _ ?_
      have hN := hN.trans nt_54
      have hz : rowsOK 1 [] := fun _ h => by cases h
      cases rows with
      | nil =>
        simp only [runA, runB, runC, runD, runE, runF, fieldE, storeE, binE, ↓reduceIte, Nat.reduceLT, Nat.reduceLeDiff, Nat.reduceEqDiff, Nat.reduceAdd, Nat.reduceMul, Nat.reduceSub, reduceCtorEq, putAt, unE, Nat.reduceBEq, convE, buildE, List.replicate, Int.reduceLT, Int.reduceLE, Int.reduceToNat, mkE, mapSetE, hN, hF, ty_5, ty_47, notIf, isEq, hz]
        constructor
        all_goals simp only [runB, finC, finD, Option.isSome_some, Option.isSome_none, ↓reduceIte, Nat.reduceEqDiff, Nat.reduceAdd, Nat.reduceMul, forall_eq_or_imp, forall_eq, implies_true, Nat.reduceBEq, reduceCtorEq, false_implies, List.zip_cons_cons, List.zip_nil_left, List.zip_nil_right, Nat.reduceLeDiff, List.forall_mem_nil, rs_54]
      | cons x rows =>
        obtain ⟨h1, h2⟩ := hc
        rw [List.length_cons] at h2
        simp only [runA, runB, runC, runD, runE, runF, fieldE, storeE, binE, ↓reduceIte, Nat.reduceLT, Nat.reduceLeDiff, Nat.reduceEqDiff, Nat.reduceAdd, Nat.reduceMul, Nat.reduceSub, reduceCtorEq, putAt, unE, Nat.reduceBEq, convE, buildE, List.replicate, Int.reduceLT, Int.reduceLE, Int.reduceToNat, mkE, mapSetE, hN, hF, ty_5, ty_47, notIf, isEq, h1, h2]
        simp only [runB, finC, finD, Option.isSome_some, Option.isSome_none, ↓reduceIte, Nat.reduceEqDiff, Nat.reduceAdd, Nat.reduceMul, forall_eq_or_imp, forall_eq, implies_true, Nat.reduceBEq, reduceCtorEq, false_implies, List.zip_cons_cons, List.zip_nil_left, List.zip_nil_right, Nat.reduceLeDiff, List.forall_mem_nil, rs_54]
    · cases hr
  · cases hr

theorem bytes_length (l : List UInt8) : (bytes l).length = l.length := by simp [bytes]
theorem bytes_append (a b : List UInt8) : bytes (a ++ b) = bytes a ++ bytes b := by simp [bytes]
theorem rowsOK_bytes (l : List UInt8) : rowsOK 1 (bytes l) := by
  intro r hr
  simp only [bytes, List.mem_map] at hr
  obtain ⟨b, _, rfl⟩ := hr
  rfl
/-- Rows that are octets, as octets. -/
def asB : List (List PC) → Option (List UInt8)
  | [] => some []
  | [.int .u8 n] :: rows => if 0 ≤ n ∧ n < 256 then match asB rows with | some l => some (UInt8.ofNat n.toNat :: l) | none => none else none
  | _ => none
theorem asB_bytes (l : List UInt8) : asB (bytes l) = some l := by
  induction l with
  | nil => rfl
  | cons b l ih =>
    unfold bytes at ih ⊢
    simp only [List.map_cons, asB, ih]
    have : (b.toNat : Int) < 256 := by have := b.toNat_lt; omega
    simp [this]
theorem asB_inv : ∀ {rows : List (List PC)} {l : List UInt8}, asB rows = some l → rows = bytes l
  | [], l, h => by simp only [asB, Option.some.injEq] at h; subst h; rfl
  | [.int .u8 n] :: rows, l, h => by
    simp only [asB] at h
    split at h
    · rename_i hn
      split at h
      · rename_i l' hl
        cases h
        rw [asB_inv hl]
        simp only [bytes, List.map_cons, List.cons.injEq, PC.int.injEq, true_and, and_true]
        have h1 : n.toNat < 256 := by omega
        rw [UInt8.toNat_ofNat_of_lt' h1]
        omega
      · cases h
    · cases h
theorem bytes_app (a b : List UInt8) : bytes a ++ bytes b = bytes (a ++ b) := (bytes_append a b).symm

/-- A writer's cells. -/
abbrev wOV (b : List UInt8) (e : Int) (made : Bool) : List OV := [.own 1 (bytes b), .c (.int .i64 e), .c (.bool made)]
structure WS where
  b : List UInt8
  e : Int
  deriving DecidableEq
def wNum (w : WS) (n : Int) : WS := if n < 0 ∨ 1099511627776 < n then ⟨w.b, if w.e = 0 then 4 else w.e⟩ else if w.b.length ≤ 16384 then ⟨w.b ++ putB n 6, w.e⟩ else w
def numC : Contract := fun args objs => match args, objs with
  | [.nilptr, .c (.int .i64 n)], [] => some ⟨[], []⟩
  | [.ptr p 0, .c (.int .i64 n)], [[.own 1 rows, .c (.int .i64 e), .c (.bool made)]] => match asB rows with
    | some b => if p = inObj 0 ∧ b.length ≤ 100000 then
        if made then some ⟨[], [wOV (wNum ⟨b, e⟩ n).b (wNum ⟨b, e⟩ n).e true]⟩ else some ⟨[], [wOV b e false]⟩ else none
    | none => none
  | _, _ => none

variable {Γ : FuncId → Contract}
theorem putB_length (n size : Int) : (putB n size).length = (min (max size 0) 8).toNat := by simp [putB]

set_option maxHeartbeats 4000000 in
theorem num_sound (hΓ : SoundG Tryz.prog Γ) (h53 : Γ 95 = putC) (h52 : Γ 104 = faultC) : SoundC Tryz.prog 101 numC := by
  refine sound_fn Tryz.func101 (by kernel_rfl) rfl rfl ?_
  intro args objs r hr
  unfold numC at hr
  split at hr
  · cases hr
    refine ⟨rfl, by show 2 ≤ _; decide, fun E hN hns hF => ?_⟩
    refine vc_sound hΓ mixed _ _ _ ?_
    have hN := hN.trans nt_101
    simp only [runA, runB, runC, runD, runE, runF, fieldE, storeE, binE, ↓reduceIte, Nat.reduceLT, Nat.reduceLeDiff, Nat.reduceEqDiff, Nat.reduceAdd, Nat.reduceMul, Nat.reduceSub, reduceCtorEq, putAt, unE, Nat.reduceBEq, convE, buildE, List.replicate, Int.reduceLT, Int.reduceLE, Int.reduceToNat, mkE, mapSetE, hN, hF, ty_3, ty_4, ty_5, ty_37, ty_44, ty_47, ty_101, notIf, isEq]
    simp only [runB, finC, finD, Option.isSome_some, Option.isSome_none, ↓reduceIte, Nat.reduceEqDiff, Nat.reduceAdd, Nat.reduceMul, forall_eq_or_imp, forall_eq, implies_true, Nat.reduceBEq, reduceCtorEq, false_implies, List.zip_cons_cons, List.zip_nil_left, List.zip_nil_right, Nat.reduceLeDiff, List.forall_mem_nil, rs_101]
  · split at hr
    · rename_i n rows e made _ b hb
      split at hr
      · rename_i hc
        obtain ⟨rfl, hlen⟩ := hc
        obtain rfl := asB_inv hb
        split at hr
        · rename_i hm
          cases hr
          refine ⟨rfl, by show 2 ≤ _; decide, fun E hN hns hF => ?_⟩
          refine vc_sound hΓ mixed _ _ _ ?_
          have hN := hN.trans nt_101
          subst hm
          have hz := rowsOK_bytes (putB n 6)
          have hL : b.length + (putB n 6).length ≤ 140737488355328 := by rw [putB_length]; omega
          have hL0 : (putB n 6).length ≤ 140737488355328 := by rw [putB_length]; omega
          cases h1 : decide (n < 0) <;> cases h2 : decide (n > 1099511627776) <;> cases h3 : decide ((b.length : Int) ≤ 16384) <;> cases h4 : (e == 0)
          all_goals
            simp only [runA, runB, runC, runD, runE, runF, fieldE, storeE, binE, ↓reduceIte, Nat.reduceLT, Nat.reduceLeDiff, Nat.reduceEqDiff, Nat.reduceAdd, Nat.reduceMul, Nat.reduceSub, reduceCtorEq, putAt, unE, Nat.reduceBEq, convE, buildE, List.replicate, Int.reduceLT, Int.reduceLE, Int.reduceToNat, mkE, mapSetE, hN, hF, ty_3, ty_4, ty_5, ty_37, ty_44, ty_47, ty_101, notIf, isEq, h1, h2, h3, h4, h52, h53, faultC, putC, bytes_length, bytes_app, hz, hL, hL0]
          all_goals try refine drawnP_intro (by kernel_rfl) (by kernel_rfl) ?_
          all_goals
            simp only [decide_eq_false_iff_not, decide_eq_true_eq, beq_iff_eq, beq_eq_false_iff_ne, ne_eq] at h1 h2 h3 h4
          all_goals
            simp only [runB, finC, finD, Option.isSome_some, Option.isSome_none, ↓reduceIte, Nat.reduceEqDiff, Nat.reduceAdd, Nat.reduceMul, forall_eq_or_imp, forall_eq, implies_true, Nat.reduceBEq, reduceCtorEq, false_implies, List.zip_cons_cons, List.zip_nil_left, List.zip_nil_right, Nat.reduceLeDiff, List.forall_mem_nil, rs_101, inBlockA_normal, bytes_length]
          all_goals
            have h3' := h3
            rw [show (16384 : Int) = ((16384 : Nat) : Int) from rfl, Int.ofNat_le] at h3'
            simp [wNum, h1, h2, h3', h4]
        · rename_i hm
          cases hr
          refine ⟨rfl, by show 2 ≤ _; decide, fun E hN hns hF => ?_⟩
          refine vc_sound hΓ mixed _ _ _ ?_
          have hN := hN.trans nt_101
          have hm : made = false := by simpa using hm
          subst hm
          simp only [runA, runB, runC, runD, runE, runF, fieldE, storeE, binE, ↓reduceIte, Nat.reduceLT, Nat.reduceLeDiff, Nat.reduceEqDiff, Nat.reduceAdd, Nat.reduceMul, Nat.reduceSub, reduceCtorEq, putAt, unE, Nat.reduceBEq, convE, buildE, List.replicate, Int.reduceLT, Int.reduceLE, Int.reduceToNat, mkE, mapSetE, hN, hF, ty_3, ty_4, ty_5, ty_37, ty_44, ty_47, ty_101, notIf, isEq]
          simp only [runB, finC, finD, Option.isSome_some, Option.isSome_none, ↓reduceIte, Nat.reduceEqDiff, Nat.reduceAdd, Nat.reduceMul, forall_eq_or_imp, forall_eq, implies_true, Nat.reduceBEq, reduceCtorEq, false_implies, List.zip_cons_cons, List.zip_nil_left, List.zip_nil_right, Nat.reduceLeDiff, List.forall_mem_nil, rs_101, bytes_length]
      · cases hr
    · cases hr
  · cases hr

open Go Go.Proofs Go.RowKit Go.Shelf
attribute [local go_sem] Oper.semAt_some

/-- The box holds the slice, the slice's places hold octets. -/
def Rd (Bs b k cap : Nat) (W : World) : Prop :=
  W.cell? ⟨Bs, 0, none⟩ = some (.slice (some ⟨b, 0, none⟩) k cap) ∧ ∀ j, j < k → ∃ x, W.cell? ⟨b, j, none⟩ = some (.int .u8 x)

set_option maxRecDepth 100000 in
set_option maxHeartbeats 4000000 in
theorem back1_in (F : Fence) (n : Nat) (h7 : F.fn 200) (hro : F.round = none) (hn : 1 ≤ n) (l Bs b k cap : Nat) (hk : k ≤ 140737488351232) (J Jx : List (Nat × Value) → World → Prop)
    (hY : ∀ pre x W, J pre W → pre.length < k → x.1 < k → YieldAt F (n - 1) Tryz.prog l #[.int .i64 (x.1 : Int), x.2] W fun e W' =>
      (e = .returned (.bool true) ∧ J (pre ++ [x]) W' ∧ (Rd Bs b k cap W → Rd Bs b k cap W')) ∨ (e = .returned (.bool false) ∧ Jx (pre ++ [x]) W'))
    (W : World) (hR : Rd Bs b k cap W) (h0 : J [] W) :
    CallsIn F n Tryz.prog 200 #[.func (.yield l) #[] #[], .pointer (some ⟨Bs, 0, none⟩)] W fun e W' => (∃ v, e = .returned v) ∧
      ((∃ ys, ys.map (·.1) = (List.range k).map (fun m => k - 1 - m) ∧ J ys W') ∨ (∃ pre, True ∧ Jx pre W')) := by
  refine callsIn_of_wp Tryz.func200 rfl h7 ?_ hro
  simp only [Tryz.ntmps200, List.size_toArray, List.length_cons, List.length_nil, Nat.reduceAdd, Nat.reduceSub, Array.replicate_succ, Array.replicate_zero, List.push_toArray, List.append_toArray, List.nil_append, List.cons_append]
  have hbox := hR.1
  gi_wp2
  gi_loopw [3] (fun i wr => ∃ (m : Nat) (ys : List (Nat × Value)), m ≤ k ∧ i = .int .i64 ((k : Int) - 1 - m) ∧ ys.map (·.1) = (List.range m).map (fun j => k - 1 - j) ∧ J ys wr ∧ Rd Bs b k cap wr)
    (fun i _ => (intOf i + 1).toNat)
  case atStart => exact ⟨0, [], Nat.zero_le _, by simp, rfl, h0, hR⟩
  case round =>
    obtain ⟨m, ys, hm, rfl, hys, hJs, hRs⟩ := hrel
    by_cases hlt : m < k
    · obtain ⟨x, hx⟩ := hRs.2 (k - 1 - m) (by omega)
      obtain ⟨fn, tmps, assign, body, hy, hR1⟩ := hY ys (k - 1 - m, .int .u8 x) wr hJs (by have := congrArg List.length hys; simp at this; omega) (by omega)
      dsimp only at hy
      have hbx := hRs.1
      have e1 : ((k - 1 - m : Nat) : Int) = (k : Int) - 1 - m := by omega
      rw [e1] at hy
      gi_wp2
      refine hR1.mono ?_
      rintro e W3 (⟨rfl, hJ3, hk3⟩ | ⟨rfl, hJx3⟩)
      · gi_wp2
        go_roundw
        case rel => exact ⟨m + 1, ys ++ [(k - 1 - m, .int .u8 x)], by omega, by congr 1; omega, by simp [hys, List.range_succ], hJ3, hk3 hRs⟩
        case measure => simp [intOf]; omega
      · gi_wp2
        refine bodyPost_ret (results_none rfl _ _ _) rfl ?_
        exact ⟨⟨_, rfl⟩, .inr ⟨_, trivial, hJx3⟩⟩
    · obtain rfl : m = k := by omega
      gi_wp2
      go_end0
      exact ⟨⟨_, rfl⟩, .inl ⟨ys, hys, hJs⟩⟩

/-- slices.Backward: the slice is boxed. -/
theorem back_in (F : Fence) (n : Nat) (h5 : F.fn 146) (hro : F.round = none) (a : Option Addr) (len cap : Nat) (w : World) :
    CallsIn F n Tryz.prog 146 #[.slice a len cap] w fun e w' => e = .returned (.func (.func 200) #[] #[.pointer (some ⟨w.heap.size, 0, none⟩)]) ∧ w' = w.alloc (.cells #[.slice a len cap] 47) := by
  refine callsIn_of_wp Tryz.func146 rfl h5 ?_ hro
  simp only [Tryz.ntmps146, List.size_toArray, List.length_cons, List.length_nil, Nat.reduceAdd, Nat.reduceSub, Array.replicate_succ, Array.replicate_zero, List.push_toArray, List.append_toArray, List.nil_append, List.cons_append]
  gi_wp2
  go_ret
  exact ⟨rfl, rfl⟩

theorem Rd.putObj {Bs b k cap l : Nat} {W : World} (h : Rd Bs b k cap W) (o : Obj) (h1 : Bs ≠ l) (h2 : b ≠ l) : Rd Bs b k cap (W.putObj l o) := by
  have e : ∀ (c j : Nat), c ≠ l → (W.putObj l o).cell? ⟨c, j, none⟩ = W.cell? ⟨c, j, none⟩ := fun c j hc => by
    simp only [World.cell?, World.putObj_heap_other hc]
  exact ⟨by rw [e _ _ h1]; exact h.1, fun j hj => by rw [e _ _ h2]; exact h.2 j hj⟩

theorem Rd.below {Bs b k cap B : Nat} {A W : World} (h : Rd Bs b k cap A) (hb : Below B A W) (h1 : Bs < B) (h2 : b < B) : Rd Bs b k cap W :=
  ⟨(hb.cell (p := ⟨Bs, 0, none⟩) h1).trans h.1, fun j hj => let ⟨x, hx⟩ := h.2 j hj; ⟨x, (hb.cell (p := ⟨b, j, none⟩) h2).trans hx⟩⟩

theorem back_stops (F : Fence) (n : Nat) (h7 : F.fn 200) (hro : F.round = none) (hn : 1 ≤ n) (Bs b k cap : Nat) (hk : k ≤ 140737488351232) (w : World) (hBs : Bs < w.heap.size) (hb : b < w.heap.size)
    (hR : Rd Bs b k cap w) :
    SeqStopsK F n Tryz.prog 200 #[.pointer (some ⟨Bs, 0, none⟩)] (fun x : Fin k × Value => #[Value.int .i64 ((x.1.val : Nat) : Int), x.2]) (fun A B => Rd Bs b k cap A → Rd Bs b k cap B)
      (fun ys => ys.map (fun x => x.1.val) = (List.range k).map (fun m => k - 1 - m)) (fun _ => True) k w := fun l J Jx W hW _ _ hY h0 => by
  have := back1_in F n h7 hro hn l Bs b k cap hk (fun ys W => ∃ zs : List (Fin k × Value), zs.map (fun x => (x.1.val, x.2)) = ys ∧ J zs W) (fun ys W => ∃ zs : List (Fin k × Value), zs.map (fun x => (x.1.val, x.2)) = ys ∧ Jx zs W) (fun pre x W hJ hlen hx => ?_) W (hR.below hW hBs hb) ⟨[], rfl, h0⟩
  · refine this.mono ?_
    rintro e W' ⟨he, ⟨ys, hys, zs, rfl, hJ⟩ | ⟨pre, _, zs, rfl, hJ⟩⟩
    · exact ⟨he, .inl ⟨zs, by rw [← hys]; simp, hJ⟩⟩
    · exact ⟨he, .inr ⟨zs, trivial, hJ⟩⟩
  · obtain ⟨zs, rfl, hJ⟩ := hJ
    obtain ⟨fn, tmps, assign, body, hy, hR1⟩ := hY zs (⟨x.1, hx⟩, x.2) W hJ (by simpa using hlen)
    refine ⟨fn, tmps, assign, body, hy, hR1.mono ?_⟩
    rintro e W' (⟨rfl, hJ', hk'⟩ | ⟨rfl, hJx'⟩)
    · exact .inl ⟨rfl, ⟨_, by simp, hJ'⟩, hk'⟩
    · exact .inr ⟨rfl, ⟨_, by simp, hJx'⟩⟩

/-- One round: a place is written. -/
def putStep (t : List Value × Int) (i : Nat) : List Value × Int := (t.1.set i (.int .u8 (t.2 % 256)), t.2 / 256)

theorem mk_run (k : Nat) (hk : k ≤ 8) (w : World) : (Instr.makeSlice 47 (.int .i64 (k : Int)) (.int .i64 (k : Int))).run Tryz.prog w = .ok (.slice (some ⟨w.heap.size, 0, none⟩) k k) (w.alloc (.cells (Array.replicate k (.int .u8 0)) 5)) := by
  have hi : (Tryz.prog.info? 5).map (fun i => (i.zero, i.size, i.bytes)) = some (some (.int .u8 0), 1, 1) := by kernel_rfl
  cases h : Tryz.prog.info? 5 with
  | none => rw [h] at hi; cases hi
  | some i =>
    rw [h] at hi
    simp only [Option.map_some, Option.some.injEq, Prod.mk.injEq] at hi
    obtain ⟨h2, h3, h4⟩ := hi
    have := run_makeSlice (P := Tryz.prog) (w := w) 47 5 i _ Tryz.underlying47 h h2 .i64 .i64 (k : Int) (k : Int) (by omega) (Int.le_refl _) (by rw [h3]; simp; omega) (by rw [h4]; omega) (by omega)
    simp only [Int.toNat_natCast] at this
    rw [this]
    have e : madeCells (Value.int .u8 0).cells (k * i.size) = Array.replicate k (.int .u8 0) := by
      rw [h3, Nat.mul_one]
      apply Array.ext
      · simp [madeCells]
      · intro j hj1 hj2
        simp [madeCells, Value.cells, Nat.mod_one]
    rw [e]

theorem heap_own {W W' : World} {row : Option Nat} {b : Nat} {vs : Array Value} {ty : TypeId} {fz : Nat × Nat} (h : W.heap[b]? = some (.cells vs ty fz)) (hg : W.grownBy W' row)
    (hr : ∀ r, row = some r → ∃ o : Obj, W.heap[r]? = some o ∧ o.isCells = false) : W'.heap[b]? = some (.cells vs ty fz) := by
  have hlt : b < W.heap.size := (Array.getElem?_eq_some_iff.1 h).1
  refine (hg.block b hlt (fun e => ?_)).trans h
  obtain ⟨o, ho, hc⟩ := hr b e.symm
  rw [h] at ho
  cases ho
  simp [Obj.isCells] at hc
theorem heap_set {W : World} {b o : Nat} {vs : Array Value} {ty : TypeId} {fz : Nat × Nat} (h : W.heap[b]? = some (.cells vs ty fz)) (v : Value) : (W.setCell ⟨b, o, none⟩ v).heap[b]? = some (.cells (vs.setIfInBounds o v) ty fz) := by
  simp [World.setCell, Array.getElem?_modify, h]

/-- What a round finds. -/
structure PutI (w : World) (k : Nat) (x : Int) (pre : List (Fin k × Value)) (W : World) : Prop where
  row : W.heap[w.heap.size]? = some (.cells (pre.foldl (fun t y => putStep t y.1.val) (List.replicate k (.int .u8 0), IntKind.u64.wrap x)).1.toArray 5 (0, 0))
  out : W.heap[w.heap.size + 1]? = some (.cells #[.slice (some ⟨w.heap.size, 0, none⟩) k k] 47 (0, 0))
  u : W.heap[w.heap.size + 1 + 1]? = some (.cells #[.int .u64 (pre.foldl (fun t y => putStep t y.1.val) (List.replicate k (.int .u8 0), IntKind.u64.wrap x)).2] 195 (0, 0))
  box : W.heap[w.heap.size + 1 + 1 + 1]? = some (.cells #[.slice (some ⟨w.heap.size, 0, none⟩) k k] 47 (0, 0))
  bel : Below w.heap.size w W

theorem put_len {k : Nat} : ∀ (pre : List (Fin k × Value)) (t : List Value × Int), (pre.foldl (fun t y => putStep t y.1.val) t).1.length = t.1.length := by
  intro pre
  induction pre with
  | nil => intro t; rfl
  | cons y pre ih => intro t; rw [List.foldl_cons, ih]; simp [putStep]

set_option maxRecDepth 100000 in
set_option maxHeartbeats 4000000 in
theorem put_in (F : Fence) (n : Nat) (h3 : F.fn 95) (h5 : F.fn 146) (h7 : F.fn 200) (hro : F.round = none) (hn : 3 ≤ n) (x : Int) (k : Nat) (hk : k ≤ 8) (w : World) :
    CallsIn F n Tryz.prog 95 #[.int .i64 x, .int .i64 (k : Int)] w fun e W' => e = .returned (.slice (some ⟨w.heap.size, 0, none⟩) k k) ∧ Below w.heap.size w W' ∧
      ∃ pre : List (Fin k × Value), pre.map (fun x => x.1.val) = (List.range k).map (fun m => k - 1 - m) ∧
        W'.heap[w.heap.size]? = some (.cells (pre.foldl (fun t y => putStep t y.1.val) (List.replicate k (.int .u8 0), IntKind.u64.wrap x)).1.toArray 5 (0, 0)) := by
  have h1 : 1 ≤ n := by omega
  have g1 : ¬ ((0 : Int) > (k : Int)) := by omega
  have g2 : ¬ ((8 : Int) < (k : Int)) := by omega
  have hmk := mk_run k hk
  refine callsIn_of_wp_marks Tryz.func95 rfl h3 ?_ hro
  simp only [Tryz.ntmps95, List.size_toArray, List.length_cons, List.length_nil, Nat.reduceAdd, Nat.reduceSub, Array.replicate_succ, Array.replicate_zero, List.push_toArray, List.append_toArray, List.nil_append, List.cons_append]
  gi_wp2_with (gi_at_call 146; refine (back_in F (n - 1) h5 hro _ _ _ _).mono ?_; rintro e w' ⟨rfl, rfl⟩)
  have hI0 : PutI w k x [] ((((w.alloc (.cells (Array.replicate k (.int .u8 0)) 5)).alloc (.cells #[.slice (some ⟨w.heap.size, 0, none⟩) k k] 47)).alloc (.cells #[.int .u64 (IntKind.u64.wrap x)] 195)).alloc (.cells #[.slice (some ⟨w.heap.size, 0, none⟩) k k] 47)) := by
    have a0 : ∀ (v : World) (o : Obj) (b : Nat), b < v.heap.size → (v.alloc o).heap[b]? = v.heap[b]? := fun v o b hb => Below.heap_alloc v o b hb
    have a1 : ∀ (v : World) (o : Obj), (v.alloc o).heap[v.heap.size]? = some o := fun v o => World.alloc_heap_new v o
    refine ⟨?_, ?_, ?_, ?_, ?_⟩
    · rw [a0 _ _ _ (by simp; omega), a0 _ _ _ (by simp; omega), a0 _ _ _ (by simp), a1]; simp
    · rw [a0 _ _ _ (by simp), a0 _ _ _ (by simp)]
      have := a1 (w.alloc (.cells (Array.replicate k (.int .u8 0)) 5)) (.cells #[.slice (some ⟨w.heap.size, 0, none⟩) k k] 47)
      rwa [World.size_alloc] at this
    · rw [a0 _ _ _ (by simp)]
      have := a1 ((w.alloc (.cells (Array.replicate k (.int .u8 0)) 5)).alloc (.cells #[.slice (some ⟨w.heap.size, 0, none⟩) k k] 47)) (.cells #[.int .u64 (IntKind.u64.wrap x)] 195)
      rwa [World.size_alloc, World.size_alloc] at this
    · have := a1 (((w.alloc (.cells (Array.replicate k (.int .u8 0)) 5)).alloc (.cells #[.slice (some ⟨w.heap.size, 0, none⟩) k k] 47)).alloc (.cells #[.int .u64 (IntKind.u64.wrap x)] 195)) (.cells #[.slice (some ⟨w.heap.size, 0, none⟩) k k] 47)
      rwa [World.size_alloc, World.size_alloc, World.size_alloc] at this
    · exact ((((Below.refl _ w).alloc (Nat.le_refl _) _).alloc (by simp) _).alloc (by simp; omega) _).alloc (by simp; omega) _
  generalize hW0 : ((((w.alloc (.cells (Array.replicate k (.int .u8 0)) 5)).alloc (.cells #[.slice (some ⟨w.heap.size, 0, none⟩) k k] 47)).alloc (.cells #[.int .u64 (IntKind.u64.wrap x)] 195)).alloc (.cells #[.slice (some ⟨w.heap.size, 0, none⟩) k k] 47)) = W0 at hI0 ⊢
  have hsz : W0.heap.size = w.heap.size + 4 := by rw [← hW0]; simp
  have hRd : ∀ pre W, PutI w k x pre W → Rd (w.heap.size + 1 + 1 + 1) w.heap.size k k W := by
    intro pre W hP
    refine ⟨by simp [World.cell?, hP.box], fun j hj => ?_⟩
    have hrow := hP.row
    have hu8 : ∀ (pre : List (Fin k × Value)) (t : List Value × Int), (∀ v ∈ t.1, ∃ z, v = .int .u8 z) → ∀ v ∈ (pre.foldl (fun t y => putStep t y.1.val) t).1, ∃ z, v = .int .u8 z := by
      intro pre
      induction pre with
      | nil => intro t h; exact h
      | cons y pre ih =>
        intro t h
        rw [List.foldl_cons]
        refine ih _ fun v hv => ?_
        rcases List.mem_or_eq_of_mem_set hv with h1 | h1
        · exact h v h1
        · exact ⟨_, h1⟩
    have hl := put_len (k := k) pre (List.replicate k (.int .u8 0), IntKind.u64.wrap x)
    rw [List.length_replicate] at hl
    generalize hT : pre.foldl (fun t y => putStep t y.1.val) (List.replicate k (.int .u8 0), IntKind.u64.wrap x) = T at hrow hl
    have h8 : ∀ v ∈ T.1, ∃ z, v = .int .u8 z := by
      rw [← hT]
      exact hu8 pre _ (fun v hv => ⟨0, (List.mem_replicate.1 hv).2⟩)
    obtain ⟨z, hz⟩ := h8 (T.1[j]'(by omega)) (by simp)
    exact ⟨z, by simp [World.cell?, hrow, ← hz, hl, hj]⟩
  refine wpIn_rangeFunc_ownF hro h1 (gf := 200) (lb := #[.pointer (some ⟨w.heap.size + 1 + 1 + 1, 0, none⟩)]) rfl h7 (enters_of Tryz.func200 (by kernel_rfl) rfl)
    (back_stops F (n - 1) h7 hro (by omega) (w.heap.size + 1 + 1 + 1) w.heap.size k k (by omega) W0 (by omega) (by omega) (hRd _ _ hI0))
    (fun h g r => g (h r)) (fun W l o o' hl _ _ _ r => r.putObj o' (by omega) (by omega)) (Below.refl _ _) (fun _ => rfl)
    (PutI w k x) (fun _ _ _ => False)
    (fun s A B row hs hg hr => ?own)
    (fun _ _ _ _ _ hs _ _ => hs)
    hI0
    (fun y => { tmps := #[.int .i64 x, .int .i64 (k : Int), undef, undef, .slice none 0 0, .pointer (some ⟨w.heap.size + 1, 0, none⟩), .pointer (some ⟨w.heap.size + 1 + 1, 0, none⟩), .int .i64 (y.1.val : Int), .int .i64 (k : Int),
      .int .i64 (k : Int), .int .i64 (k : Int), .slice (some ⟨w.heap.size, 0, none⟩) k k, .int .i64 x, .int .u64 (IntKind.u64.wrap x), .slice (some ⟨w.heap.size, 0, none⟩) k k,
      .func (.func 200) #[] #[.pointer (some ⟨w.heap.size + 1 + 1 + 1, 0, none⟩)], .int .i64 (y.1.val : Int), y.2, undef, undef, undef, undef, undef, undef, undef, undef], defers := [] }) ?assign ?body ?done ?stop
  case own =>
    have hr' : ∀ r, row = some r → ∃ o : Obj, A.heap[r]? = some o ∧ o.isCells = false := fun r e => (hr r e).2
    exact ⟨heap_own hs.row hg hr', heap_own hs.out hg hr', heap_own hs.u hg hr', heap_own hs.box hg hr', hs.bel.grown hg hs.bel.size (fun j e => by have := (hr j e).1; omega)⟩
  case assign =>
    intro l y W K hK
    gi_wp2
    exact hK
  case body =>
    rintro l pre y W hP _
    have hrow := hP.row
    have hout := hP.out
    have hu := hP.u
    have hylt := y.1.isLt
    generalize hT : pre.foldl (fun t y => putStep t y.1.val) (List.replicate k (.int .u8 0), IntKind.u64.wrap x) = T at hrow hu
    have c1 : W.cell? ⟨w.heap.size + 1, 0, none⟩ = some (.slice (some ⟨w.heap.size, 0, none⟩) k k) := by simp [World.cell?, hout]
    have c2 : W.cell? ⟨w.heap.size + 1 + 1, 0, none⟩ = some (.int .u64 T.2) := by simp [World.cell?, hu]
    have hTl : T.1.length = k := by rw [← hT, put_len]; simp
    have c3 : W.cell? ⟨w.heap.size, y.1.val, none⟩ = some (T.1[y.1.val]'(by omega)) := by simp [World.cell?, hrow, hTl]
    have f1 : W.frozen? ⟨w.heap.size, y.1.val, none⟩ = false := by simp [World.frozen?, hrow]
    have f2 : W.frozen? ⟨w.heap.size + 1 + 1, 0, none⟩ = false := by simp [World.frozen?, hu]
    gi_wp2
    have hstep : (pre ++ [y]).foldl (fun t y => putStep t y.1.val) (List.replicate k (.int .u8 0), IntKind.u64.wrap x) = putStep T y.1.val := by rw [List.foldl_append, hT]; rfl
    have hP' : PutI w k x (pre ++ [y]) ((W.setCell ⟨w.heap.size, y.1.val, none⟩ (.int .u8 (T.2 % 256))).setCell ⟨w.heap.size + 1 + 1, 0, none⟩ (.int .u64 (T.2 / 256))) := by
      refine ⟨?_, ?_, ?_, ?_, ?_⟩
      · rw [hstep, Below.heap_setCell _ _ _ _ (by dsimp only; omega), heap_set hrow]
        simp [putStep]
      · rw [Below.heap_setCell _ _ _ _ (by dsimp only; omega), Below.heap_setCell _ _ _ _ (by dsimp only; omega)]; exact hout
      · rw [hstep, heap_set (by rw [Below.heap_setCell _ _ _ _ (by dsimp only; omega)]; exact hu)]
        simp [putStep]
      · rw [Below.heap_setCell _ _ _ _ (by dsimp only; omega), Below.heap_setCell _ _ _ _ (by dsimp only; omega)]; exact hP.box
      · exact (hP.bel.setCell (p := ⟨w.heap.size, y.1.val, none⟩) (Nat.le_refl _) _).setCell (p := ⟨w.heap.size + 1 + 1, 0, none⟩) (by simp; omega) _
    exact ⟨(KeepsOthers.setCell _ _ _).trans (KeepsOthers.setCell _ _ _), fun _ => hRd _ _ hP', hP'⟩
  case done =>
    rintro D ys W hD hys hP hK
    have hout := hP.out
    have c1 : W.cell? ⟨w.heap.size + 1, 0, none⟩ = some (.slice (some ⟨w.heap.size, 0, none⟩) k k) := by simp [World.cell?, hout]
    gi_wp2
    refine ⟨by simp, .inl ⟨_, _, rfl, run_takeDeferred hK, ?_⟩⟩
    refine ⟨_, results_tmp rfl _ _ _, rfl, hP.bel.trans (belowK_b (w := w) (Nat.le_refl _) W D _ _ (by omega) hK rfl rfl), ys, hys, ?_⟩
    rw [World.putObj_heap_other (by omega)]
    exact hP.row
  case stop =>
    rintro D c pre W _ _ h _
    exact h.elim

/-- What the rounds have written: the number's octets. -/
theorem put_fold (k : Nat) (U : Int) (hU : 0 ≤ U) : ∀ m, m ≤ k → ∃ T : List Value × Int, ((List.range m).map (fun j => k - 1 - j)).foldl putStep (List.replicate k (.int .u8 0), U) = T ∧ T.2 = U / 256 ^ m ∧ T.1.length = k ∧
    ∀ i, i < k → k - m ≤ i → T.1[i]? = some (.int .u8 (U / 256 ^ (k - 1 - i) % 256)) := by
  intro m
  induction m with
  | zero => exact fun _ => ⟨_, rfl, by simp, by simp, fun i h1 h2 => by omega⟩
  | succ m ih =>
    intro hm
    obtain ⟨T, h1, h2, h3, h4⟩ := ih (by omega)
    rw [List.range_succ, List.map_append, List.foldl_append, h1]
    refine ⟨_, rfl, ?_, ?_, fun i hi hle => ?_⟩
    · simp only [List.map_cons, List.map_nil, List.foldl_cons, List.foldl_nil, putStep, h2]
      rw [Int.ediv_ediv_of_nonneg (Int.le_of_lt (Int.pow_pos (by decide))), Int.pow_succ]
    · simp [putStep, h3]
    · simp only [List.map_cons, List.map_nil, List.foldl_cons, List.foldl_nil, putStep]
      rw [List.getElem?_set]
      by_cases e : k - 1 - m = i
      · rw [if_pos e, if_pos (by omega), h2]
        have : m = k - 1 - i := by omega
        rw [this]
      · rw [if_neg e]
        exact h4 i hi (by omega)

theorem put_sound : SoundC Tryz.prog 95 putC := by
  refine ⟨⟨_, Tryz.func95, rfl, rfl⟩, fun args objs r hr => ?_⟩
  unfold putC at hr
  split at hr
  · rename_i n size
    split at hr
    · rename_i hs
      cases hr
      refine ⟨fun x hx => ?_, fun Ext G w vals M hl hx => ?_⟩
      · simp at hx
      · obtain ⟨k, hk⟩ : ∃ k : Nat, size = (k : Int) := ⟨size.toNat, by omega⟩
        subst hk
        have hk8 : k ≤ 8 := by omega
        match vals, hl with
        | [v1, v2], _ =>
        have e1 : v1 = .int .i64 n := by
          have := hx 0 _ v1 rfl rfl
          cases this with
          | c _ _ h => cases h; rfl
        have e2 : v2 = .int .i64 (k : Int) := by
          have := hx 1 _ v2 rfl rfl
          cases this with
          | c _ _ h => cases h; rfl
        subst e1 e2
        refine Calls.mono (callsIn_wide.1 (put_in Fence.wide 3 trivial trivial trivial rfl (by omega) n k hk8 w)) ?_
        rintro e W' ⟨rfl, bel, pre, hpre, hrow⟩
        rw [← List.foldl_map (f := fun y : Fin k × Value => y.1.val) (g := putStep), hpre] at hrow
        have hU : 0 ≤ IntKind.u64.wrap n := wrap_u64_nonneg n
        obtain ⟨T, h1, h2, h3, h4⟩ := put_fold k (IntKind.u64.wrap n) hU k (Nat.le_refl _)
        rw [h1] at hrow
        have hlen : (putB n (k : Int)).length = k := by rw [putB_length]; omega
        have hv : ∀ (j : Nat) (r : List PC) (i : Nat) (c : PC), (bytes (putB n (k : Int)))[j]? = some r → r[i]? = some c → ∃ v, T.1.toArray[j * 1 + i]? = some v ∧ VR G.K c v := by
          intro j r i c hj hi
          simp only [bytes, List.getElem?_map, Option.map_eq_some_iff] at hj
          obtain ⟨b, hb, rfl⟩ := hj
          have hjk : j < k := by rw [← hlen]; exact (List.getElem?_eq_some_iff.1 hb).1
          have hi0 : i = 0 := by
            have := (List.getElem?_eq_some_iff.1 hi).1
            simpa using this
          subst hi0
          simp at hi
          subst hi
          refine ⟨.int .u8 (IntKind.u64.wrap n / 256 ^ (k - 1 - j) % 256), ?_, ?_⟩
          · have := h4 j hjk (by omega)
            simpa using this
          · have hm : (min (max (k : Int) 0) 8).toNat = k := by omega
            have : b = UInt8.ofNat ((IntKind.u64.wrap n).toNat / 256 ^ (k - 1 - j) % 256) := by
              unfold putB at hb
              rw [hm, List.getElem?_map, List.getElem?_range hjk] at hb
              simpa using hb.symm
            rw [this, UInt8.toNat_ofNat_of_lt' (Nat.mod_lt _ (by decide))]
            have e : ((( IntKind.u64.wrap n).toNat / 256 ^ (k - 1 - j) % 256 : Nat) : Int) = IntKind.u64.wrap n / 256 ^ (k - 1 - j) % 256 := by
              rw [Int.natCast_emod, Int.natCast_ediv, Int.natCast_pow, Int.toNat_of_nonneg hU]
              rfl
            rw [e]
            exact .int _ _
        obtain ⟨G', g1, g2, g3⟩ := M.newRow (w' := W') (n := outName 0) rfl (z := 1) (cap := k) (rows := bytes (putB n (k : Int))) (by decide) (bytes_rows _) (by rw [bytes_length, hlen]; exact Nat.le_refl _) (by simp [h3]) hrow hv (fun b hb => bel.block b hb) bel.os bel.tape bel.output bel.size
        · rw [bytes_length, hlen] at g2
          refine ⟨G', _, rfl, g1, ?_, g2⟩
          refine g3.congr fun i => ?_
          simp only [exitMem, entryMem, List.nil_append, resAt, look, mset, bytes_length]
    · cases hr
  · cases hr


variable {Γ : FuncId → Contract}

/-- The octets that have come when so many rounds are over. -/
def putTo (n : Int) (k i : Nat) : List UInt8 := (List.range i).map fun (j : Nat) => UInt8.ofNat ((IntKind.u64.wrap n).toNat / 256 ^ (k - 1 - j) % 256)
theorem putTo_all (n : Int) (k : Nat) (hk : k ≤ 8) : putTo n k k = putB n (k : Int) := by
  unfold putTo putB
  have : (min (max (k : Int) 0) 8).toNat = k := by omega
  rw [this]

set_option maxHeartbeats 4000000 in
theorem refPut_sound (hΓ : SoundG Tryz.prog Γ) : SoundC Tryz.prog 159 putC := by
  refine sound_fn Tryz.func159 (by kernel_rfl) rfl rfl ?_
  intro args objs r hr
  unfold putC at hr
  split at hr
  · rename_i n size
    split at hr
    · rename_i hs
      cases hr
      refine ⟨rfl, by show 2 ≤ _; decide, fun E hN hns hF => ?_⟩
      refine vc_sound hΓ mixed _ _ _ ?_
      have hN := hN.trans nt_159
      obtain ⟨k, hk⟩ : ∃ k : Nat, size = (k : Int) := ⟨size.toNat, by omega⟩
      subst hk
      have hk8 : k ≤ 8 := by omega
      have g1 : ¬ ((0 : Int) > (k : Int)) := by omega
      have g2 : ¬ ((8 : Int) < (k : Int)) := by omega
      simp only [runA, runB, runC, runD, runE, runF, fieldE, storeE, binE, ↓reduceIte, Nat.reduceLT, Nat.reduceLeDiff, Nat.reduceEqDiff, Nat.reduceAdd, Nat.reduceMul, Nat.reduceSub, reduceCtorEq, putAt, unE, Nat.reduceBEq, convE, buildE, List.replicate, Int.reduceLT, Int.reduceLE, Int.reduceToNat, mkE, mapSetE, hN, hF, ty_3, ty_5, ty_47, ty_165, ty_195, notIf, isEq, g1, g2, Bool.false_eq_true]
      refine AWP.loop (fun c s => ∃ i : Nat, i ≤ k ∧ c = k - i ∧ s = ⟨[(0, .c (.int .i64 n)), (1, .c (.int .i64 (k : Int))), (5, .own 1729 1 (bytes (putTo n k i))), (6, .c (.int .i64 (i : Int)))], [(1729, .row 1 i)]⟩) ⟨k, _, ?w, 0, Nat.zero_le _, rfl, rfl⟩ ?r
      case w =>
        rw [hns]
        simp only [runB, finC, finD, AS.get, AS.mem, false_implies, implies_true, ↓reduceIte, Nat.reduceEqDiff, Option.isSome_some, Option.isSome_none, forall_eq_or_imp, forall_eq, reduceCtorEq, Nat.reduceAdd, Nat.reduceMul, List.zip_cons_cons, List.zip_nil_left, List.zip_nil_right, List.forall_mem_nil]
        refine ⟨rfl, rfl⟩
      case r =>
        rintro c s ⟨i, hi, rfl, rfl⟩
        refine vc_sound hΓ mixed _ _ _ ?_
        by_cases hlt : i < k
        · have h1 : decide ((i : Int) < (k : Int)) = true := by simpa using hlt
          have e1 : IntKind.i64.wrap ((k : Int) - 1) = (k : Int) - 1 := wrapI (by omega)
          have e2 : IntKind.i64.wrap ((k : Int) - 1 - i) = (k : Int) - 1 - i := wrapI (by omega)
          have e3 : IntKind.i64.wrap (8 * ((k : Int) - 1 - i)) = 8 * ((k : Int) - 1 - i) := wrapI (by omega)
          have e4 : IntKind.u64.wrap (8 * ((k : Int) - 1 - i)) = 8 * ((k : Int) - 1 - i) := wrapU (by omega)
          have e5 : IntKind.i64.wrap ((i : Int) + 1) = (i : Int) + 1 := wrapI (by omega)
          have hsh : shOp .shr .u64 (IntKind.u64.wrap n) (8 * ((k : Int) - 1 - i)) = some (.int .u64 (IntKind.u64.wrap n / 256 ^ (k - 1 - i))) := by
            have hb : ¬ (8 * ((k : Int) - 1 - i) < 0) := by omega
            have hm : min (8 * ((k : Int) - 1 - i)).toNat IntKind.u64.bits = 8 * (k - 1 - i) := by
              have : IntKind.u64.bits = 64 := rfl
              omega
            simp only [shOp, if_neg hb, hm]
            rw [Int.pow_mul, show (2 : Int) ^ 8 = 256 from rfl, Int.fdiv_eq_ediv_of_nonneg _ (Int.le_of_lt (Int.pow_pos (by decide)))]
          have hz : ∀ v : Int, rowsOK 1 [[PC.int .u8 v]] := fun v r hr => by simp at hr; subst hr; rfl
          have hrow : bytes (putTo n k i) ++ [[PC.int .u8 (IntKind.u64.wrap n / 256 ^ (k - 1 - i) % 256)]] = bytes (putTo n k (i + 1)) := by
            have hU : 0 ≤ IntKind.u64.wrap n := wrap_u64_nonneg n
            rw [show putTo n k (i + 1) = putTo n k i ++ [UInt8.ofNat ((IntKind.u64.wrap n).toNat / 256 ^ (k - 1 - i) % 256)] from by simp [putTo, List.range_succ], bytes_append]
            congr 1
            simp only [bytes, List.map_cons, List.map_nil]
            rw [UInt8.toNat_ofNat_of_lt' (Nat.mod_lt _ (by decide))]
            have e : (((IntKind.u64.wrap n).toNat / 256 ^ (k - 1 - i) % 256 : Nat) : Int) = IntKind.u64.wrap n / 256 ^ (k - 1 - i) % 256 := by
              rw [Int.natCast_emod, Int.natCast_ediv, Int.natCast_pow, Int.toNat_of_nonneg hU]
              rfl
            rw [e]
          have hlen : (putTo n k i).length = i := by simp [putTo]
          have hL : i ≤ 140737488355327 := by omega
          simp only [runA, runB, runC, runD, runE, runF, fieldE, storeE, binE, ↓reduceIte, Nat.reduceLT, Nat.reduceLeDiff, Nat.reduceEqDiff, Nat.reduceAdd, Nat.reduceMul, Nat.reduceSub, reduceCtorEq, putAt, unE, Nat.reduceBEq, convE, buildE, List.replicate, Int.reduceLT, Int.reduceLE, Int.reduceToNat, mkE, mapSetE, hN, hF, ty_3, ty_5, ty_47, ty_165, ty_195, notIf, isEq, h1, e1, e2, e3, e4, e5, hsh, hz, wrapB, hrow, bytes_length, hlen, hL]
          refine ⟨k - (i + 1), _, by omega, ?_, i + 1, by omega, rfl, rfl⟩
          rw [hns]
          simp only [runB, finC, finD, AS.get, AS.mem, false_implies, implies_true, ↓reduceIte, Nat.reduceEqDiff, Option.isSome_some, Option.isSome_none, forall_eq_or_imp, forall_eq, reduceCtorEq, Nat.reduceAdd, Nat.reduceMul, List.zip_cons_cons, List.zip_nil_left, List.zip_nil_right, List.forall_mem_nil]
          first | done | rfl
        · have h1 : decide ((i : Int) < (k : Int)) = false := by simpa using hlt
          simp only [runA, runB, runC, runD, runE, runF, fieldE, storeE, binE, ↓reduceIte, Nat.reduceLT, Nat.reduceLeDiff, Nat.reduceEqDiff, Nat.reduceAdd, Nat.reduceMul, Nat.reduceSub, reduceCtorEq, putAt, unE, Nat.reduceBEq, convE, buildE, List.replicate, Int.reduceLT, Int.reduceLE, Int.reduceToNat, mkE, mapSetE, hN, hF, ty_3, ty_5, ty_47, ty_165, ty_195, notIf, isEq, h1]
          obtain rfl : i = k := by omega
          rw [← putTo_all n i hk8]
          have hlen : (putTo n i i).length = i := by simp [putTo]
          simp only [runB, finC, finD, Option.isSome_some, Option.isSome_none, ↓reduceIte, Nat.reduceEqDiff, Nat.reduceAdd, Nat.reduceMul, forall_eq_or_imp, forall_eq, implies_true, Nat.reduceBEq, reduceCtorEq, false_implies, List.zip_cons_cons, List.zip_nil_left, List.zip_nil_right, Nat.reduceLeDiff, List.forall_mem_nil, rs_159, bytes_length, hlen]
    · cases hr
  · cases hr

end Go.Proofs.YtenmlgalcjkdbaaGreat.AM
