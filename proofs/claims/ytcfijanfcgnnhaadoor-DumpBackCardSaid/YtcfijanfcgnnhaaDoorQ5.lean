/-
  Q5: Ty Dm1.
-/
import Derived.Test.YtcfijanfcgnnhaaDoorQ3
import Derived.Test.YtcfijanfcgnnhaaDoorProg
import Derived.KernelRfl
import Derived.Lib.Bytealg
set_option linter.defProp false
set_option linter.unusedVariables false
set_option linter.unusedSimpArgs false
namespace Go.Proofs.YtcfijanfcgnnhaaDoor.AM
open Go

theorem und_3 : (Program.underlying Tryd.prog 3).isSome = true := by kernel_rfl
theorem agg_3 : tyAgg Tryd.prog 3 = some false := by kernel_rfl
theorem sz_3 : tySize Tryd.prog 3 = some 1 := by kernel_rfl
theorem by_3 : tyBytes Tryd.prog 3 = some 8 := by kernel_rfl
theorem zero_3 : tyZero Tryd.prog 3 = some [.c (.int .i64 0)] := by kernel_rfl
theorem elem_3 : tyElem Tryd.prog 3 = none := by kernel_rfl
theorem arr_3 : tyArr Tryd.prog 3 = none := by kernel_rfl
theorem int_3 : tyInt Tryd.prog 3 = some .i64 := by kernel_rfl
theorem str_3 : tyStr Tryd.prog 3 = false := by kernel_rfl
theorem bool_3 : tyBool Tryd.prog 3 = false := by kernel_rfl
theorem ptr_3 : tyPtr Tryd.prog 3 = false := by kernel_rfl
theorem zag_3 : tyZag Tryd.prog 3 = false := by kernel_rfl
theorem map_3 : tyMap Tryd.prog 3 = none := by kernel_rfl
theorem pl_3 : tyPlaces Tryd.prog 3 = none := by kernel_rfl
def ty_3 := And.intro und_3 <| And.intro agg_3 <| And.intro sz_3 <| And.intro by_3 <| And.intro zero_3 <| And.intro elem_3 <| And.intro arr_3 <| And.intro int_3 <| And.intro str_3 <| And.intro bool_3 <| And.intro ptr_3 <| And.intro zag_3 <| And.intro map_3 <| pl_3
theorem und_4 : (Program.underlying Tryd.prog 4).isSome = true := by kernel_rfl
theorem agg_4 : tyAgg Tryd.prog 4 = some false := by kernel_rfl
theorem sz_4 : tySize Tryd.prog 4 = some 1 := by kernel_rfl
theorem by_4 : tyBytes Tryd.prog 4 = some 1 := by kernel_rfl
theorem zero_4 : tyZero Tryd.prog 4 = some [.c (.bool false)] := by kernel_rfl
theorem elem_4 : tyElem Tryd.prog 4 = none := by kernel_rfl
theorem arr_4 : tyArr Tryd.prog 4 = none := by kernel_rfl
theorem int_4 : tyInt Tryd.prog 4 = none := by kernel_rfl
theorem str_4 : tyStr Tryd.prog 4 = false := by kernel_rfl
theorem bool_4 : tyBool Tryd.prog 4 = true := by kernel_rfl
theorem ptr_4 : tyPtr Tryd.prog 4 = false := by kernel_rfl
theorem zag_4 : tyZag Tryd.prog 4 = false := by kernel_rfl
theorem map_4 : tyMap Tryd.prog 4 = none := by kernel_rfl
theorem pl_4 : tyPlaces Tryd.prog 4 = none := by kernel_rfl
def ty_4 := And.intro und_4 <| And.intro agg_4 <| And.intro sz_4 <| And.intro by_4 <| And.intro zero_4 <| And.intro elem_4 <| And.intro arr_4 <| And.intro int_4 <| And.intro str_4 <| And.intro bool_4 <| And.intro ptr_4 <| And.intro zag_4 <| And.intro map_4 <| pl_4
theorem und_5 : (Program.underlying Tryd.prog 5).isSome = true := by kernel_rfl
theorem agg_5 : tyAgg Tryd.prog 5 = some false := by kernel_rfl
theorem sz_5 : tySize Tryd.prog 5 = some 1 := by kernel_rfl
theorem by_5 : tyBytes Tryd.prog 5 = some 1 := by kernel_rfl
theorem zero_5 : tyZero Tryd.prog 5 = some [.c (.int .u8 0)] := by kernel_rfl
theorem elem_5 : tyElem Tryd.prog 5 = none := by kernel_rfl
theorem arr_5 : tyArr Tryd.prog 5 = none := by kernel_rfl
theorem int_5 : tyInt Tryd.prog 5 = some .u8 := by kernel_rfl
theorem str_5 : tyStr Tryd.prog 5 = false := by kernel_rfl
theorem bool_5 : tyBool Tryd.prog 5 = false := by kernel_rfl
theorem ptr_5 : tyPtr Tryd.prog 5 = false := by kernel_rfl
theorem zag_5 : tyZag Tryd.prog 5 = false := by kernel_rfl
theorem map_5 : tyMap Tryd.prog 5 = none := by kernel_rfl
theorem pl_5 : tyPlaces Tryd.prog 5 = none := by kernel_rfl
def ty_5 := And.intro und_5 <| And.intro agg_5 <| And.intro sz_5 <| And.intro by_5 <| And.intro zero_5 <| And.intro elem_5 <| And.intro arr_5 <| And.intro int_5 <| And.intro str_5 <| And.intro bool_5 <| And.intro ptr_5 <| And.intro zag_5 <| And.intro map_5 <| pl_5
theorem und_9 : (Program.underlying Tryd.prog 9).isSome = true := by kernel_rfl
theorem agg_9 : tyAgg Tryd.prog 9 = some false := by kernel_rfl
theorem sz_9 : tySize Tryd.prog 9 = some 1 := by kernel_rfl
theorem by_9 : tyBytes Tryd.prog 9 = some 16 := by kernel_rfl
theorem zero_9 : tyZero Tryd.prog 9 = some [.c (.str [])] := by kernel_rfl
theorem elem_9 : tyElem Tryd.prog 9 = none := by kernel_rfl
theorem arr_9 : tyArr Tryd.prog 9 = none := by kernel_rfl
theorem int_9 : tyInt Tryd.prog 9 = none := by kernel_rfl
theorem str_9 : tyStr Tryd.prog 9 = true := by kernel_rfl
theorem bool_9 : tyBool Tryd.prog 9 = false := by kernel_rfl
theorem ptr_9 : tyPtr Tryd.prog 9 = false := by kernel_rfl
theorem zag_9 : tyZag Tryd.prog 9 = false := by kernel_rfl
theorem map_9 : tyMap Tryd.prog 9 = none := by kernel_rfl
theorem pl_9 : tyPlaces Tryd.prog 9 = none := by kernel_rfl
def ty_9 := And.intro und_9 <| And.intro agg_9 <| And.intro sz_9 <| And.intro by_9 <| And.intro zero_9 <| And.intro elem_9 <| And.intro arr_9 <| And.intro int_9 <| And.intro str_9 <| And.intro bool_9 <| And.intro ptr_9 <| And.intro zag_9 <| And.intro map_9 <| pl_9
theorem und_23 : (Program.underlying Tryd.prog 23).isSome = true := by kernel_rfl
theorem agg_23 : tyAgg Tryd.prog 23 = some true := by kernel_rfl
theorem sz_23 : tySize Tryd.prog 23 = some 7 := by kernel_rfl
theorem by_23 : tyBytes Tryd.prog 23 = some 72 := by kernel_rfl
theorem zero_23 : tyZero Tryd.prog 23 = some [.c (.int .i64 0), .c (.int .i64 0), .c (.int .i64 0), .c (.str []), .c (.int .i64 0), .c (.int .i64 0), .c (.str [])] := by kernel_rfl
theorem elem_23 : tyElem Tryd.prog 23 = none := by kernel_rfl
theorem arr_23 : tyArr Tryd.prog 23 = none := by kernel_rfl
theorem int_23 : tyInt Tryd.prog 23 = none := by kernel_rfl
theorem str_23 : tyStr Tryd.prog 23 = false := by kernel_rfl
theorem bool_23 : tyBool Tryd.prog 23 = false := by kernel_rfl
theorem ptr_23 : tyPtr Tryd.prog 23 = false := by kernel_rfl
theorem zag_23 : tyZag Tryd.prog 23 = true := by kernel_rfl
theorem map_23 : tyMap Tryd.prog 23 = none := by kernel_rfl
theorem fd_23_0 : tyField Tryd.prog 23 0 = some (0, 3, 1) := by kernel_rfl
theorem fd_23_1 : tyField Tryd.prog 23 1 = some (1, 3, 1) := by kernel_rfl
theorem fd_23_2 : tyField Tryd.prog 23 2 = some (2, 3, 1) := by kernel_rfl
theorem fd_23_3 : tyField Tryd.prog 23 3 = some (3, 9, 1) := by kernel_rfl
theorem fd_23_4 : tyField Tryd.prog 23 4 = some (4, 3, 1) := by kernel_rfl
theorem fd_23_5 : tyField Tryd.prog 23 5 = some (5, 3, 1) := by kernel_rfl
theorem fd_23_6 : tyField Tryd.prog 23 6 = some (6, 9, 1) := by kernel_rfl
theorem pl_23 : tyPlaces Tryd.prog 23 = some [(0, 1), (1, 1), (2, 1), (3, 1), (4, 1), (5, 1), (6, 1)] := by kernel_rfl
def ty_23 := And.intro und_23 <| And.intro agg_23 <| And.intro sz_23 <| And.intro by_23 <| And.intro zero_23 <| And.intro elem_23 <| And.intro arr_23 <| And.intro int_23 <| And.intro str_23 <| And.intro bool_23 <| And.intro ptr_23 <| And.intro zag_23 <| And.intro map_23 <| And.intro fd_23_0 <| And.intro fd_23_1 <| And.intro fd_23_2 <| And.intro fd_23_3 <| And.intro fd_23_4 <| And.intro fd_23_5 <| And.intro fd_23_6 <| pl_23
theorem und_25 : (Program.underlying Tryd.prog 25).isSome = true := by kernel_rfl
theorem agg_25 : tyAgg Tryd.prog 25 = some true := by kernel_rfl
theorem sz_25 : tySize Tryd.prog 25 = some 5 := by kernel_rfl
theorem by_25 : tyBytes Tryd.prog 25 = some 48 := by kernel_rfl
theorem zero_25 : tyZero Tryd.prog 25 = some [.c (.int .i64 0), .c (.int .i64 0), .c (.int .i64 0), .c (.int .i64 0), .c (.str [])] := by kernel_rfl
theorem elem_25 : tyElem Tryd.prog 25 = none := by kernel_rfl
theorem arr_25 : tyArr Tryd.prog 25 = none := by kernel_rfl
theorem int_25 : tyInt Tryd.prog 25 = none := by kernel_rfl
theorem str_25 : tyStr Tryd.prog 25 = false := by kernel_rfl
theorem bool_25 : tyBool Tryd.prog 25 = false := by kernel_rfl
theorem ptr_25 : tyPtr Tryd.prog 25 = false := by kernel_rfl
theorem zag_25 : tyZag Tryd.prog 25 = true := by kernel_rfl
theorem map_25 : tyMap Tryd.prog 25 = none := by kernel_rfl
theorem fd_25_0 : tyField Tryd.prog 25 0 = some (0, 3, 1) := by kernel_rfl
theorem fd_25_1 : tyField Tryd.prog 25 1 = some (1, 3, 1) := by kernel_rfl
theorem fd_25_2 : tyField Tryd.prog 25 2 = some (2, 3, 1) := by kernel_rfl
theorem fd_25_3 : tyField Tryd.prog 25 3 = some (3, 3, 1) := by kernel_rfl
theorem fd_25_4 : tyField Tryd.prog 25 4 = some (4, 9, 1) := by kernel_rfl
theorem pl_25 : tyPlaces Tryd.prog 25 = some [(0, 1), (1, 1), (2, 1), (3, 1), (4, 1)] := by kernel_rfl
def ty_25 := And.intro und_25 <| And.intro agg_25 <| And.intro sz_25 <| And.intro by_25 <| And.intro zero_25 <| And.intro elem_25 <| And.intro arr_25 <| And.intro int_25 <| And.intro str_25 <| And.intro bool_25 <| And.intro ptr_25 <| And.intro zag_25 <| And.intro map_25 <| And.intro fd_25_0 <| And.intro fd_25_1 <| And.intro fd_25_2 <| And.intro fd_25_3 <| And.intro fd_25_4 <| pl_25
theorem und_27 : (Program.underlying Tryd.prog 27).isSome = true := by kernel_rfl
theorem agg_27 : tyAgg Tryd.prog 27 = some true := by kernel_rfl
theorem sz_27 : tySize Tryd.prog 27 = some 3 := by kernel_rfl
theorem by_27 : tyBytes Tryd.prog 27 = some 32 := by kernel_rfl
theorem zero_27 : tyZero Tryd.prog 27 = some [.c (.int .i64 0), .c (.int .i64 0), .c (.str [])] := by kernel_rfl
theorem elem_27 : tyElem Tryd.prog 27 = none := by kernel_rfl
theorem arr_27 : tyArr Tryd.prog 27 = none := by kernel_rfl
theorem int_27 : tyInt Tryd.prog 27 = none := by kernel_rfl
theorem str_27 : tyStr Tryd.prog 27 = false := by kernel_rfl
theorem bool_27 : tyBool Tryd.prog 27 = false := by kernel_rfl
theorem ptr_27 : tyPtr Tryd.prog 27 = false := by kernel_rfl
theorem zag_27 : tyZag Tryd.prog 27 = true := by kernel_rfl
theorem map_27 : tyMap Tryd.prog 27 = none := by kernel_rfl
theorem fd_27_0 : tyField Tryd.prog 27 0 = some (0, 3, 1) := by kernel_rfl
theorem fd_27_1 : tyField Tryd.prog 27 1 = some (1, 3, 1) := by kernel_rfl
theorem fd_27_2 : tyField Tryd.prog 27 2 = some (2, 9, 1) := by kernel_rfl
theorem pl_27 : tyPlaces Tryd.prog 27 = some [(0, 1), (1, 1), (2, 1)] := by kernel_rfl
def ty_27 := And.intro und_27 <| And.intro agg_27 <| And.intro sz_27 <| And.intro by_27 <| And.intro zero_27 <| And.intro elem_27 <| And.intro arr_27 <| And.intro int_27 <| And.intro str_27 <| And.intro bool_27 <| And.intro ptr_27 <| And.intro zag_27 <| And.intro map_27 <| And.intro fd_27_0 <| And.intro fd_27_1 <| And.intro fd_27_2 <| pl_27
theorem und_29 : (Program.underlying Tryd.prog 29).isSome = true := by kernel_rfl
theorem agg_29 : tyAgg Tryd.prog 29 = some false := by kernel_rfl
theorem sz_29 : tySize Tryd.prog 29 = some 1 := by kernel_rfl
theorem by_29 : tyBytes Tryd.prog 29 = some 8 := by kernel_rfl
theorem zero_29 : tyZero Tryd.prog 29 = some [.c (.int .i64 0)] := by kernel_rfl
theorem elem_29 : tyElem Tryd.prog 29 = none := by kernel_rfl
theorem arr_29 : tyArr Tryd.prog 29 = none := by kernel_rfl
theorem int_29 : tyInt Tryd.prog 29 = some .i64 := by kernel_rfl
theorem str_29 : tyStr Tryd.prog 29 = false := by kernel_rfl
theorem bool_29 : tyBool Tryd.prog 29 = false := by kernel_rfl
theorem ptr_29 : tyPtr Tryd.prog 29 = false := by kernel_rfl
theorem zag_29 : tyZag Tryd.prog 29 = false := by kernel_rfl
theorem map_29 : tyMap Tryd.prog 29 = none := by kernel_rfl
theorem pl_29 : tyPlaces Tryd.prog 29 = none := by kernel_rfl
def ty_29 := And.intro und_29 <| And.intro agg_29 <| And.intro sz_29 <| And.intro by_29 <| And.intro zero_29 <| And.intro elem_29 <| And.intro arr_29 <| And.intro int_29 <| And.intro str_29 <| And.intro bool_29 <| And.intro ptr_29 <| And.intro zag_29 <| And.intro map_29 <| pl_29
theorem und_35 : (Program.underlying Tryd.prog 35).isSome = true := by kernel_rfl
theorem agg_35 : tyAgg Tryd.prog 35 = some true := by kernel_rfl
theorem sz_35 : tySize Tryd.prog 35 = some 16 := by kernel_rfl
theorem by_35 : tyBytes Tryd.prog 35 = some 168 := by kernel_rfl
theorem zero_35 : tyZero Tryd.prog 35 = some [.c (.str []), .c (.int .i64 0), .c (.int .i64 0), .c (.int .i64 0), .c (.str []), .c (.int .i64 0), .c (.int .i64 0), .c (.str []), .c (.int .i64 0), .c (.int .i64 0), .c (.int .i64 0), .c (.int .i64 0), .c (.str []), .c (.int .i64 0), .c (.int .i64 0), .c (.str [])] := by kernel_rfl
theorem elem_35 : tyElem Tryd.prog 35 = none := by kernel_rfl
theorem arr_35 : tyArr Tryd.prog 35 = none := by kernel_rfl
theorem int_35 : tyInt Tryd.prog 35 = none := by kernel_rfl
theorem str_35 : tyStr Tryd.prog 35 = false := by kernel_rfl
theorem bool_35 : tyBool Tryd.prog 35 = false := by kernel_rfl
theorem ptr_35 : tyPtr Tryd.prog 35 = false := by kernel_rfl
theorem zag_35 : tyZag Tryd.prog 35 = true := by kernel_rfl
theorem map_35 : tyMap Tryd.prog 35 = none := by kernel_rfl
theorem fd_35_0 : tyField Tryd.prog 35 0 = some (0, 9, 1) := by kernel_rfl
theorem fd_35_1 : tyField Tryd.prog 35 1 = some (1, 23, 7) := by kernel_rfl
theorem fd_35_2 : tyField Tryd.prog 35 2 = some (8, 25, 5) := by kernel_rfl
theorem fd_35_3 : tyField Tryd.prog 35 3 = some (13, 27, 3) := by kernel_rfl
theorem pl_35 : tyPlaces Tryd.prog 35 = some [(0, 1), (1, 7), (8, 5), (13, 3)] := by kernel_rfl
def ty_35 := And.intro und_35 <| And.intro agg_35 <| And.intro sz_35 <| And.intro by_35 <| And.intro zero_35 <| And.intro elem_35 <| And.intro arr_35 <| And.intro int_35 <| And.intro str_35 <| And.intro bool_35 <| And.intro ptr_35 <| And.intro zag_35 <| And.intro map_35 <| And.intro fd_35_0 <| And.intro fd_35_1 <| And.intro fd_35_2 <| And.intro fd_35_3 <| pl_35
theorem und_43 : (Program.underlying Tryd.prog 43).isSome = true := by kernel_rfl
theorem agg_43 : tyAgg Tryd.prog 43 = some false := by kernel_rfl
theorem sz_43 : tySize Tryd.prog 43 = some 1 := by kernel_rfl
theorem by_43 : tyBytes Tryd.prog 43 = some 8 := by kernel_rfl
theorem zero_43 : tyZero Tryd.prog 43 = some [.nilptr] := by kernel_rfl
theorem elem_43 : tyElem Tryd.prog 43 = none := by kernel_rfl
theorem arr_43 : tyArr Tryd.prog 43 = none := by kernel_rfl
theorem int_43 : tyInt Tryd.prog 43 = none := by kernel_rfl
theorem str_43 : tyStr Tryd.prog 43 = false := by kernel_rfl
theorem bool_43 : tyBool Tryd.prog 43 = false := by kernel_rfl
theorem ptr_43 : tyPtr Tryd.prog 43 = true := by kernel_rfl
theorem zag_43 : tyZag Tryd.prog 43 = false := by kernel_rfl
theorem map_43 : tyMap Tryd.prog 43 = none := by kernel_rfl
theorem pl_43 : tyPlaces Tryd.prog 43 = none := by kernel_rfl
def ty_43 := And.intro und_43 <| And.intro agg_43 <| And.intro sz_43 <| And.intro by_43 <| And.intro zero_43 <| And.intro elem_43 <| And.intro arr_43 <| And.intro int_43 <| And.intro str_43 <| And.intro bool_43 <| And.intro ptr_43 <| And.intro zag_43 <| And.intro map_43 <| pl_43
theorem und_44 : (Program.underlying Tryd.prog 44).isSome = true := by kernel_rfl
theorem agg_44 : tyAgg Tryd.prog 44 = some false := by kernel_rfl
theorem sz_44 : tySize Tryd.prog 44 = some 1 := by kernel_rfl
theorem by_44 : tyBytes Tryd.prog 44 = some 24 := by kernel_rfl
theorem zero_44 : tyZero Tryd.prog 44 = some [.nilsl] := by kernel_rfl
theorem elem_44 : tyElem Tryd.prog 44 = some 9 := by kernel_rfl
theorem arr_44 : tyArr Tryd.prog 44 = none := by kernel_rfl
theorem int_44 : tyInt Tryd.prog 44 = none := by kernel_rfl
theorem str_44 : tyStr Tryd.prog 44 = false := by kernel_rfl
theorem bool_44 : tyBool Tryd.prog 44 = false := by kernel_rfl
theorem ptr_44 : tyPtr Tryd.prog 44 = false := by kernel_rfl
theorem zag_44 : tyZag Tryd.prog 44 = false := by kernel_rfl
theorem map_44 : tyMap Tryd.prog 44 = none := by kernel_rfl
theorem pl_44 : tyPlaces Tryd.prog 44 = none := by kernel_rfl
def ty_44 := And.intro und_44 <| And.intro agg_44 <| And.intro sz_44 <| And.intro by_44 <| And.intro zero_44 <| And.intro elem_44 <| And.intro arr_44 <| And.intro int_44 <| And.intro str_44 <| And.intro bool_44 <| And.intro ptr_44 <| And.intro zag_44 <| And.intro map_44 <| pl_44
theorem und_45 : (Program.underlying Tryd.prog 45).isSome = true := by kernel_rfl
theorem agg_45 : tyAgg Tryd.prog 45 = some false := by kernel_rfl
theorem sz_45 : tySize Tryd.prog 45 = some 1 := by kernel_rfl
theorem by_45 : tyBytes Tryd.prog 45 = some 24 := by kernel_rfl
theorem zero_45 : tyZero Tryd.prog 45 = some [.nilsl] := by kernel_rfl
theorem elem_45 : tyElem Tryd.prog 45 = some 9 := by kernel_rfl
theorem arr_45 : tyArr Tryd.prog 45 = none := by kernel_rfl
theorem int_45 : tyInt Tryd.prog 45 = none := by kernel_rfl
theorem str_45 : tyStr Tryd.prog 45 = false := by kernel_rfl
theorem bool_45 : tyBool Tryd.prog 45 = false := by kernel_rfl
theorem ptr_45 : tyPtr Tryd.prog 45 = false := by kernel_rfl
theorem zag_45 : tyZag Tryd.prog 45 = false := by kernel_rfl
theorem map_45 : tyMap Tryd.prog 45 = none := by kernel_rfl
theorem pl_45 : tyPlaces Tryd.prog 45 = none := by kernel_rfl
def ty_45 := And.intro und_45 <| And.intro agg_45 <| And.intro sz_45 <| And.intro by_45 <| And.intro zero_45 <| And.intro elem_45 <| And.intro arr_45 <| And.intro int_45 <| And.intro str_45 <| And.intro bool_45 <| And.intro ptr_45 <| And.intro zag_45 <| And.intro map_45 <| pl_45
theorem und_58 : (Program.underlying Tryd.prog 58).isSome = true := by kernel_rfl
theorem agg_58 : tyAgg Tryd.prog 58 = some false := by kernel_rfl
theorem sz_58 : tySize Tryd.prog 58 = some 1 := by kernel_rfl
theorem by_58 : tyBytes Tryd.prog 58 = some 24 := by kernel_rfl
theorem zero_58 : tyZero Tryd.prog 58 = some [.nilsl] := by kernel_rfl
theorem elem_58 : tyElem Tryd.prog 58 = some 5 := by kernel_rfl
theorem arr_58 : tyArr Tryd.prog 58 = none := by kernel_rfl
theorem int_58 : tyInt Tryd.prog 58 = none := by kernel_rfl
theorem str_58 : tyStr Tryd.prog 58 = false := by kernel_rfl
theorem bool_58 : tyBool Tryd.prog 58 = false := by kernel_rfl
theorem ptr_58 : tyPtr Tryd.prog 58 = false := by kernel_rfl
theorem zag_58 : tyZag Tryd.prog 58 = false := by kernel_rfl
theorem map_58 : tyMap Tryd.prog 58 = none := by kernel_rfl
theorem pl_58 : tyPlaces Tryd.prog 58 = none := by kernel_rfl
def ty_58 := And.intro und_58 <| And.intro agg_58 <| And.intro sz_58 <| And.intro by_58 <| And.intro zero_58 <| And.intro elem_58 <| And.intro arr_58 <| And.intro int_58 <| And.intro str_58 <| And.intro bool_58 <| And.intro ptr_58 <| And.intro zag_58 <| And.intro map_58 <| pl_58
theorem und_68 : (Program.underlying Tryd.prog 68).isSome = true := by kernel_rfl
theorem agg_68 : tyAgg Tryd.prog 68 = some false := by kernel_rfl
theorem sz_68 : tySize Tryd.prog 68 = some 1 := by kernel_rfl
theorem by_68 : tyBytes Tryd.prog 68 = some 24 := by kernel_rfl
theorem zero_68 : tyZero Tryd.prog 68 = some [.nilsl] := by kernel_rfl
theorem elem_68 : tyElem Tryd.prog 68 = some 3 := by kernel_rfl
theorem arr_68 : tyArr Tryd.prog 68 = none := by kernel_rfl
theorem int_68 : tyInt Tryd.prog 68 = none := by kernel_rfl
theorem str_68 : tyStr Tryd.prog 68 = false := by kernel_rfl
theorem bool_68 : tyBool Tryd.prog 68 = false := by kernel_rfl
theorem ptr_68 : tyPtr Tryd.prog 68 = false := by kernel_rfl
theorem zag_68 : tyZag Tryd.prog 68 = false := by kernel_rfl
theorem map_68 : tyMap Tryd.prog 68 = none := by kernel_rfl
theorem pl_68 : tyPlaces Tryd.prog 68 = none := by kernel_rfl
def ty_68 := And.intro und_68 <| And.intro agg_68 <| And.intro sz_68 <| And.intro by_68 <| And.intro zero_68 <| And.intro elem_68 <| And.intro arr_68 <| And.intro int_68 <| And.intro str_68 <| And.intro bool_68 <| And.intro ptr_68 <| And.intro zag_68 <| And.intro map_68 <| pl_68
theorem nt_26 : Tryd.f26.ntmps = 22 := by kernel_rfl
theorem rs_26 : Tryd.f26.results.toList = [.tmp 2] := by kernel_rfl
theorem nt_4 : Tryd.f4.ntmps = 20 := by kernel_rfl
theorem rs_4 : Tryd.f4.results.toList = [.tmp 0] := by kernel_rfl
theorem nt_12 : Tryd.f12.ntmps = 24 := by kernel_rfl
theorem rs_12 : Tryd.f12.results.toList = [.tmp 4] := by kernel_rfl
theorem nt_13 : Tryd.f13.ntmps = 15 := by kernel_rfl
theorem rs_13 : Tryd.f13.results.toList = [.tmp 4] := by kernel_rfl
theorem nt_14 : Tryd.f14.ntmps = 7 := by kernel_rfl
theorem rs_14 : Tryd.f14.results.toList = [.tmp 2] := by kernel_rfl
theorem nt_28 : Tryd.f28.ntmps = 9 := by kernel_rfl
theorem rs_28 : Tryd.f28.results.toList = [.tmp 2] := by kernel_rfl
theorem nt_15 : Tryd.f15.ntmps = 46 := by kernel_rfl
theorem rs_15 : Tryd.f15.results.toList = [.tmp 2] := by kernel_rfl
theorem nt_25 : Tryd.f25.ntmps = 9 := by kernel_rfl
theorem rs_25 : Tryd.f25.results.toList = [.tmp 2] := by kernel_rfl
theorem nt_23 : Tryd.f23.ntmps = 28 := by kernel_rfl
theorem rs_23 : Tryd.f23.results.toList = [.tmp 2] := by kernel_rfl
theorem nt_24 : Tryd.f24.ntmps = 17 := by kernel_rfl
theorem rs_24 : Tryd.f24.results.toList = [.tmp 2] := by kernel_rfl
theorem nt_11 : Tryd.f11.ntmps = 43 := by kernel_rfl
theorem rs_11 : Tryd.f11.results.toList = [.tmp 2] := by kernel_rfl
theorem nt_5 : Tryd.f5.ntmps = 35 := by kernel_rfl
theorem rs_5 : Tryd.f5.results.toList = [.tmp 2, .tmp 3] := by kernel_rfl
theorem nt_6 : Tryd.f6.ntmps = 28 := by kernel_rfl
theorem rs_6 : Tryd.f6.results.toList = [.tmp 2, .tmp 3] := by kernel_rfl
theorem nt_7 : Tryd.f7.ntmps = 42 := by kernel_rfl
theorem rs_7 : Tryd.f7.results.toList = [.tmp 2, .tmp 3] := by kernel_rfl
theorem nt_19 : Tryd.f19.ntmps = 27 := by kernel_rfl
theorem rs_19 : Tryd.f19.results.toList = [.tmp 2] := by kernel_rfl
theorem nt_3 : Tryd.f3.ntmps = 161 := by kernel_rfl
theorem rs_3 : Tryd.f3.results.toList = [.tmp 8] := by kernel_rfl
theorem mixed : Tryd.prog.follows .mixedOrders = true := by kernel_rfl


def letters : List UInt8 := [48, 49, 50, 51, 52, 53, 54, 55, 56, 57, 97, 98, 99, 100, 101, 102]
def hx (n : Nat) : UInt8 := letters.getD n 0
def hexL : List UInt8 → List UInt8
  | [] => []
  | b :: l => hx (b.toNat / 16) :: hx (b.toNat % 16) :: hexL l
def hexS (s : List UInt8) : List UInt8 := if s = [] then [46] else hexL s
def unL : List UInt8 → Option (List UInt8)
  | [] => some []
  | [_] => none
  | x :: y :: r => if Lib.indexByte letters x < 0 ∨ Lib.indexByte letters y < 0 then none else (unL r).map (UInt8.ofNat ((Lib.indexByte letters x).toNat * 16 + (Lib.indexByte letters y).toNat) :: ·)
def unS (s : List UInt8) : Option (List UInt8) := if s = [46] then some [] else if s = [] then none else unL s
theorem hexL_length : ∀ l : List UInt8, (hexL l).length = 2 * l.length
  | [] => rfl
  | b :: l => by simp [hexL, hexL_length l]; omega
theorem hexL_append : ∀ a b : List UInt8, hexL (a ++ b) = hexL a ++ hexL b
  | [], b => rfl
  | x :: a, b => by simp [hexL, hexL_append a b]
theorem hexS_length (s : List UInt8) : (hexS s).length ≤ 2 * s.length + 1 := by
  unfold hexS
  split
  · simp
  · rw [hexL_length]; omega
theorem ix_hx : ∀ n : Fin 16, Lib.indexByte letters (hx n.1) = (n.1 : Int) := by decide
theorem hx_ix : ∀ c : Fin 256, Lib.indexByte letters (UInt8.ofNat c.1) < 0 ∨ ((Lib.indexByte letters (UInt8.ofNat c.1)).toNat < 16 ∧ hx (Lib.indexByte letters (UInt8.ofNat c.1)).toNat = UInt8.ofNat c.1) := by decide +kernel
theorem hx_ix' (c : UInt8) (h : ¬ Lib.indexByte letters c < 0) : (Lib.indexByte letters c).toNat < 16 ∧ hx (Lib.indexByte letters c).toNat = c := by
  have := hx_ix ⟨c.toNat, c.toNat_lt⟩
  rw [show UInt8.ofNat (⟨c.toNat, c.toNat_lt⟩ : Fin 256).1 = c from by simp] at this
  exact this.resolve_left h
theorem unL_hex : ∀ l : List UInt8, unL (hexL l) = some l
  | [] => rfl
  | b :: l => by
    have hb := b.toNat_lt
    have h1 := ix_hx ⟨b.toNat / 16, by omega⟩
    have h2 := ix_hx ⟨b.toNat % 16, by omega⟩
    unfold hexL unL
    dsimp only at h1 h2
    rw [h1, h2, if_neg (by omega), unL_hex l]
    simp only [Option.map_some, Int.toNat_natCast]
    congr 2
    apply UInt8.toNat_inj.1
    rw [UInt8.toNat_ofNat']
    omega
theorem unL_even : ∀ (l m : List UInt8), unL l = some m → l.length = 2 * m.length ∧ hexL m = l
  | [], m, h => by cases h; exact ⟨rfl, rfl⟩
  | [_], m, h => by cases h
  | x :: y :: r, m, h => by
    unfold unL at h
    split at h
    · cases h
    · rename_i hn
      have hn' : ¬ Lib.indexByte letters x < 0 ∧ ¬ Lib.indexByte letters y < 0 := not_or.1 hn
      cases hu : unL r with
      | none => rw [hu] at h; cases h
      | some k =>
        rw [hu] at h
        cases h
        obtain ⟨e1, e2⟩ := unL_even r k hu
        obtain ⟨a1, a2⟩ := hx_ix' x hn'.1
        obtain ⟨b1, b2⟩ := hx_ix' y hn'.2
        refine ⟨by simp [e1]; omega, ?_⟩
        unfold hexL
        have en : (UInt8.ofNat ((Lib.indexByte letters x).toNat * 16 + (Lib.indexByte letters y).toNat)).toNat = (Lib.indexByte letters x).toNat * 16 + (Lib.indexByte letters y).toNat := by
          rw [UInt8.toNat_ofNat']; omega
        rw [en, show ((Lib.indexByte letters x).toNat * 16 + (Lib.indexByte letters y).toNat) / 16 = (Lib.indexByte letters x).toNat by omega, show ((Lib.indexByte letters x).toNat * 16 + (Lib.indexByte letters y).toNat) % 16 = (Lib.indexByte letters y).toNat by omega, a2, b2, e2]
theorem unS_hex (s : List UInt8) : unS (hexS s) = some s := by
  unfold hexS
  split
  · rename_i h; subst h; rfl
  · rename_i h
    unfold unS
    have hl := hexL_length s
    have h0 : s.length ≠ 0 := by simpa using h
    rw [if_neg (by intro e; rw [e] at hl; simp at hl; omega), if_neg (by intro e; rw [e] at hl; simp at hl; omega), unL_hex]
theorem hex_unS {s m : List UInt8} (h : unS s = some m) : hexS m = s := by
  unfold unS at h
  split at h
  · rename_i e; cases h; exact e.symm
  · split at h
    · cases h
    · rename_i n1 n2
      obtain ⟨e1, e2⟩ := unL_even s m h
      unfold hexS
      rw [if_neg (by rintro rfl; exact n2 (by rw [← e2]; rfl)), e2]

end Go.Proofs.YtcfijanfcgnnhaaDoor.AM
