/-
  The types' facts, as a program wrote them.
-/
import Derived.Test.YtjdokoldiemobaaAmD
import Derived.Test.YtjdokoldiemobaaProg
import Derived.KernelRfl
set_option linter.defProp false
namespace Go.Proofs.Ytjdokoldiemobaa.AM
open Go

theorem und_3 : (Program.underlying Try.prog 3).isSome = true := by kernel_rfl
theorem agg_3 : tyAgg Try.prog 3 = some false := by kernel_rfl
theorem sz_3 : tySize Try.prog 3 = some 1 := by kernel_rfl
theorem by_3 : tyBytes Try.prog 3 = some 8 := by kernel_rfl
theorem zero_3 : tyZero Try.prog 3 = some [.c (.int .i64 0)] := by kernel_rfl
theorem elem_3 : tyElem Try.prog 3 = none := by kernel_rfl
theorem arr_3 : tyArr Try.prog 3 = none := by kernel_rfl
theorem int_3 : tyInt Try.prog 3 = some .i64 := by kernel_rfl
theorem str_3 : tyStr Try.prog 3 = false := by kernel_rfl
theorem bool_3 : tyBool Try.prog 3 = false := by kernel_rfl
theorem ptr_3 : tyPtr Try.prog 3 = false := by kernel_rfl
theorem map_3 : tyMap Try.prog 3 = none := by kernel_rfl
theorem pl_3 : tyPlaces Try.prog 3 = none := by kernel_rfl
def ty_3 := And.intro und_3 <| And.intro agg_3 <| And.intro sz_3 <| And.intro by_3 <| And.intro zero_3 <| And.intro elem_3 <| And.intro arr_3 <| And.intro int_3 <| And.intro str_3 <| And.intro bool_3 <| And.intro ptr_3 <| And.intro map_3 <| pl_3
theorem und_4 : (Program.underlying Try.prog 4).isSome = true := by kernel_rfl
theorem agg_4 : tyAgg Try.prog 4 = some false := by kernel_rfl
theorem sz_4 : tySize Try.prog 4 = some 1 := by kernel_rfl
theorem by_4 : tyBytes Try.prog 4 = some 1 := by kernel_rfl
theorem zero_4 : tyZero Try.prog 4 = some [.c (.bool false)] := by kernel_rfl
theorem elem_4 : tyElem Try.prog 4 = none := by kernel_rfl
theorem arr_4 : tyArr Try.prog 4 = none := by kernel_rfl
theorem int_4 : tyInt Try.prog 4 = none := by kernel_rfl
theorem str_4 : tyStr Try.prog 4 = false := by kernel_rfl
theorem bool_4 : tyBool Try.prog 4 = true := by kernel_rfl
theorem ptr_4 : tyPtr Try.prog 4 = false := by kernel_rfl
theorem map_4 : tyMap Try.prog 4 = none := by kernel_rfl
theorem pl_4 : tyPlaces Try.prog 4 = none := by kernel_rfl
def ty_4 := And.intro und_4 <| And.intro agg_4 <| And.intro sz_4 <| And.intro by_4 <| And.intro zero_4 <| And.intro elem_4 <| And.intro arr_4 <| And.intro int_4 <| And.intro str_4 <| And.intro bool_4 <| And.intro ptr_4 <| And.intro map_4 <| pl_4
theorem und_5 : (Program.underlying Try.prog 5).isSome = true := by kernel_rfl
theorem agg_5 : tyAgg Try.prog 5 = some false := by kernel_rfl
theorem sz_5 : tySize Try.prog 5 = some 1 := by kernel_rfl
theorem by_5 : tyBytes Try.prog 5 = some 1 := by kernel_rfl
theorem zero_5 : tyZero Try.prog 5 = some [.c (.int .u8 0)] := by kernel_rfl
theorem elem_5 : tyElem Try.prog 5 = none := by kernel_rfl
theorem arr_5 : tyArr Try.prog 5 = none := by kernel_rfl
theorem int_5 : tyInt Try.prog 5 = some .u8 := by kernel_rfl
theorem str_5 : tyStr Try.prog 5 = false := by kernel_rfl
theorem bool_5 : tyBool Try.prog 5 = false := by kernel_rfl
theorem ptr_5 : tyPtr Try.prog 5 = false := by kernel_rfl
theorem map_5 : tyMap Try.prog 5 = none := by kernel_rfl
theorem pl_5 : tyPlaces Try.prog 5 = none := by kernel_rfl
def ty_5 := And.intro und_5 <| And.intro agg_5 <| And.intro sz_5 <| And.intro by_5 <| And.intro zero_5 <| And.intro elem_5 <| And.intro arr_5 <| And.intro int_5 <| And.intro str_5 <| And.intro bool_5 <| And.intro ptr_5 <| And.intro map_5 <| pl_5
theorem und_9 : (Program.underlying Try.prog 9).isSome = true := by kernel_rfl
theorem agg_9 : tyAgg Try.prog 9 = some false := by kernel_rfl
theorem sz_9 : tySize Try.prog 9 = some 1 := by kernel_rfl
theorem by_9 : tyBytes Try.prog 9 = some 16 := by kernel_rfl
theorem zero_9 : tyZero Try.prog 9 = some [.c (.str [])] := by kernel_rfl
theorem elem_9 : tyElem Try.prog 9 = none := by kernel_rfl
theorem arr_9 : tyArr Try.prog 9 = none := by kernel_rfl
theorem int_9 : tyInt Try.prog 9 = none := by kernel_rfl
theorem str_9 : tyStr Try.prog 9 = true := by kernel_rfl
theorem bool_9 : tyBool Try.prog 9 = false := by kernel_rfl
theorem ptr_9 : tyPtr Try.prog 9 = false := by kernel_rfl
theorem map_9 : tyMap Try.prog 9 = none := by kernel_rfl
theorem pl_9 : tyPlaces Try.prog 9 = none := by kernel_rfl
def ty_9 := And.intro und_9 <| And.intro agg_9 <| And.intro sz_9 <| And.intro by_9 <| And.intro zero_9 <| And.intro elem_9 <| And.intro arr_9 <| And.intro int_9 <| And.intro str_9 <| And.intro bool_9 <| And.intro ptr_9 <| And.intro map_9 <| pl_9
theorem und_23 : (Program.underlying Try.prog 23).isSome = true := by kernel_rfl
theorem agg_23 : tyAgg Try.prog 23 = some false := by kernel_rfl
theorem sz_23 : tySize Try.prog 23 = some 1 := by kernel_rfl
theorem by_23 : tyBytes Try.prog 23 = some 24 := by kernel_rfl
theorem zero_23 : tyZero Try.prog 23 = some [.nilsl] := by kernel_rfl
theorem elem_23 : tyElem Try.prog 23 = some 9 := by kernel_rfl
theorem arr_23 : tyArr Try.prog 23 = none := by kernel_rfl
theorem int_23 : tyInt Try.prog 23 = none := by kernel_rfl
theorem str_23 : tyStr Try.prog 23 = false := by kernel_rfl
theorem bool_23 : tyBool Try.prog 23 = false := by kernel_rfl
theorem ptr_23 : tyPtr Try.prog 23 = false := by kernel_rfl
theorem map_23 : tyMap Try.prog 23 = none := by kernel_rfl
theorem pl_23 : tyPlaces Try.prog 23 = none := by kernel_rfl
def ty_23 := And.intro und_23 <| And.intro agg_23 <| And.intro sz_23 <| And.intro by_23 <| And.intro zero_23 <| And.intro elem_23 <| And.intro arr_23 <| And.intro int_23 <| And.intro str_23 <| And.intro bool_23 <| And.intro ptr_23 <| And.intro map_23 <| pl_23
theorem und_25 : (Program.underlying Try.prog 25).isSome = true := by kernel_rfl
theorem agg_25 : tyAgg Try.prog 25 = some true := by kernel_rfl
theorem sz_25 : tySize Try.prog 25 = some 3 := by kernel_rfl
theorem by_25 : tyBytes Try.prog 25 = some 48 := by kernel_rfl
theorem zero_25 : tyZero Try.prog 25 = some [.c (.str []), .nilsl, .c (.int .i64 0)] := by kernel_rfl
theorem elem_25 : tyElem Try.prog 25 = none := by kernel_rfl
theorem arr_25 : tyArr Try.prog 25 = none := by kernel_rfl
theorem int_25 : tyInt Try.prog 25 = none := by kernel_rfl
theorem str_25 : tyStr Try.prog 25 = false := by kernel_rfl
theorem bool_25 : tyBool Try.prog 25 = false := by kernel_rfl
theorem ptr_25 : tyPtr Try.prog 25 = false := by kernel_rfl
theorem map_25 : tyMap Try.prog 25 = none := by kernel_rfl
theorem fd_25_0 : tyField Try.prog 25 0 = some (0, 9, 1) := by kernel_rfl
theorem fd_25_1 : tyField Try.prog 25 1 = some (1, 23, 1) := by kernel_rfl
theorem fd_25_2 : tyField Try.prog 25 2 = some (2, 3, 1) := by kernel_rfl
theorem pl_25 : tyPlaces Try.prog 25 = some [(0, 1), (1, 1), (2, 1)] := by kernel_rfl
def ty_25 := And.intro und_25 <| And.intro agg_25 <| And.intro sz_25 <| And.intro by_25 <| And.intro zero_25 <| And.intro elem_25 <| And.intro arr_25 <| And.intro int_25 <| And.intro str_25 <| And.intro bool_25 <| And.intro ptr_25 <| And.intro map_25 <| And.intro fd_25_0 <| And.intro fd_25_1 <| And.intro fd_25_2 <| pl_25
theorem und_26 : (Program.underlying Try.prog 26).isSome = true := by kernel_rfl
theorem agg_26 : tyAgg Try.prog 26 = some false := by kernel_rfl
theorem sz_26 : tySize Try.prog 26 = some 1 := by kernel_rfl
theorem by_26 : tyBytes Try.prog 26 = some 8 := by kernel_rfl
theorem zero_26 : tyZero Try.prog 26 = some [.c (.int .i64 0)] := by kernel_rfl
theorem elem_26 : tyElem Try.prog 26 = none := by kernel_rfl
theorem arr_26 : tyArr Try.prog 26 = none := by kernel_rfl
theorem int_26 : tyInt Try.prog 26 = some .i64 := by kernel_rfl
theorem str_26 : tyStr Try.prog 26 = false := by kernel_rfl
theorem bool_26 : tyBool Try.prog 26 = false := by kernel_rfl
theorem ptr_26 : tyPtr Try.prog 26 = false := by kernel_rfl
theorem map_26 : tyMap Try.prog 26 = none := by kernel_rfl
theorem pl_26 : tyPlaces Try.prog 26 = none := by kernel_rfl
def ty_26 := And.intro und_26 <| And.intro agg_26 <| And.intro sz_26 <| And.intro by_26 <| And.intro zero_26 <| And.intro elem_26 <| And.intro arr_26 <| And.intro int_26 <| And.intro str_26 <| And.intro bool_26 <| And.intro ptr_26 <| And.intro map_26 <| pl_26
theorem und_32 : (Program.underlying Try.prog 32).isSome = true := by kernel_rfl
theorem agg_32 : tyAgg Try.prog 32 = some true := by kernel_rfl
theorem sz_32 : tySize Try.prog 32 = some 7 := by kernel_rfl
theorem by_32 : tyBytes Try.prog 32 = some 72 := by kernel_rfl
theorem zero_32 : tyZero Try.prog 32 = some [.c (.int .i64 0), .c (.int .i64 0), .c (.int .i64 0), .c (.str []), .c (.int .i64 0), .c (.int .i64 0), .c (.str [])] := by kernel_rfl
theorem elem_32 : tyElem Try.prog 32 = none := by kernel_rfl
theorem arr_32 : tyArr Try.prog 32 = none := by kernel_rfl
theorem int_32 : tyInt Try.prog 32 = none := by kernel_rfl
theorem str_32 : tyStr Try.prog 32 = false := by kernel_rfl
theorem bool_32 : tyBool Try.prog 32 = false := by kernel_rfl
theorem ptr_32 : tyPtr Try.prog 32 = false := by kernel_rfl
theorem map_32 : tyMap Try.prog 32 = none := by kernel_rfl
theorem fd_32_0 : tyField Try.prog 32 0 = some (0, 3, 1) := by kernel_rfl
theorem fd_32_1 : tyField Try.prog 32 1 = some (1, 3, 1) := by kernel_rfl
theorem fd_32_2 : tyField Try.prog 32 2 = some (2, 3, 1) := by kernel_rfl
theorem fd_32_3 : tyField Try.prog 32 3 = some (3, 9, 1) := by kernel_rfl
theorem fd_32_4 : tyField Try.prog 32 4 = some (4, 3, 1) := by kernel_rfl
theorem fd_32_5 : tyField Try.prog 32 5 = some (5, 3, 1) := by kernel_rfl
theorem fd_32_6 : tyField Try.prog 32 6 = some (6, 9, 1) := by kernel_rfl
theorem pl_32 : tyPlaces Try.prog 32 = some [(0, 1), (1, 1), (2, 1), (3, 1), (4, 1), (5, 1), (6, 1)] := by kernel_rfl
def ty_32 := And.intro und_32 <| And.intro agg_32 <| And.intro sz_32 <| And.intro by_32 <| And.intro zero_32 <| And.intro elem_32 <| And.intro arr_32 <| And.intro int_32 <| And.intro str_32 <| And.intro bool_32 <| And.intro ptr_32 <| And.intro map_32 <| And.intro fd_32_0 <| And.intro fd_32_1 <| And.intro fd_32_2 <| And.intro fd_32_3 <| And.intro fd_32_4 <| And.intro fd_32_5 <| And.intro fd_32_6 <| pl_32
theorem und_34 : (Program.underlying Try.prog 34).isSome = true := by kernel_rfl
theorem agg_34 : tyAgg Try.prog 34 = some true := by kernel_rfl
theorem sz_34 : tySize Try.prog 34 = some 5 := by kernel_rfl
theorem by_34 : tyBytes Try.prog 34 = some 48 := by kernel_rfl
theorem zero_34 : tyZero Try.prog 34 = some [.c (.int .i64 0), .c (.int .i64 0), .c (.int .i64 0), .c (.int .i64 0), .c (.str [])] := by kernel_rfl
theorem elem_34 : tyElem Try.prog 34 = none := by kernel_rfl
theorem arr_34 : tyArr Try.prog 34 = none := by kernel_rfl
theorem int_34 : tyInt Try.prog 34 = none := by kernel_rfl
theorem str_34 : tyStr Try.prog 34 = false := by kernel_rfl
theorem bool_34 : tyBool Try.prog 34 = false := by kernel_rfl
theorem ptr_34 : tyPtr Try.prog 34 = false := by kernel_rfl
theorem map_34 : tyMap Try.prog 34 = none := by kernel_rfl
theorem fd_34_0 : tyField Try.prog 34 0 = some (0, 3, 1) := by kernel_rfl
theorem fd_34_1 : tyField Try.prog 34 1 = some (1, 3, 1) := by kernel_rfl
theorem fd_34_2 : tyField Try.prog 34 2 = some (2, 3, 1) := by kernel_rfl
theorem fd_34_3 : tyField Try.prog 34 3 = some (3, 3, 1) := by kernel_rfl
theorem fd_34_4 : tyField Try.prog 34 4 = some (4, 9, 1) := by kernel_rfl
theorem pl_34 : tyPlaces Try.prog 34 = some [(0, 1), (1, 1), (2, 1), (3, 1), (4, 1)] := by kernel_rfl
def ty_34 := And.intro und_34 <| And.intro agg_34 <| And.intro sz_34 <| And.intro by_34 <| And.intro zero_34 <| And.intro elem_34 <| And.intro arr_34 <| And.intro int_34 <| And.intro str_34 <| And.intro bool_34 <| And.intro ptr_34 <| And.intro map_34 <| And.intro fd_34_0 <| And.intro fd_34_1 <| And.intro fd_34_2 <| And.intro fd_34_3 <| And.intro fd_34_4 <| pl_34
theorem und_49 : (Program.underlying Try.prog 49).isSome = true := by kernel_rfl
theorem agg_49 : tyAgg Try.prog 49 = some false := by kernel_rfl
theorem sz_49 : tySize Try.prog 49 = some 1 := by kernel_rfl
theorem by_49 : tyBytes Try.prog 49 = some 24 := by kernel_rfl
theorem zero_49 : tyZero Try.prog 49 = some [.nilsl] := by kernel_rfl
theorem elem_49 : tyElem Try.prog 49 = some 5 := by kernel_rfl
theorem arr_49 : tyArr Try.prog 49 = none := by kernel_rfl
theorem int_49 : tyInt Try.prog 49 = none := by kernel_rfl
theorem str_49 : tyStr Try.prog 49 = false := by kernel_rfl
theorem bool_49 : tyBool Try.prog 49 = false := by kernel_rfl
theorem ptr_49 : tyPtr Try.prog 49 = false := by kernel_rfl
theorem map_49 : tyMap Try.prog 49 = none := by kernel_rfl
theorem pl_49 : tyPlaces Try.prog 49 = none := by kernel_rfl
def ty_49 := And.intro und_49 <| And.intro agg_49 <| And.intro sz_49 <| And.intro by_49 <| And.intro zero_49 <| And.intro elem_49 <| And.intro arr_49 <| And.intro int_49 <| And.intro str_49 <| And.intro bool_49 <| And.intro ptr_49 <| And.intro map_49 <| pl_49
theorem und_52 : (Program.underlying Try.prog 52).isSome = true := by kernel_rfl
theorem agg_52 : tyAgg Try.prog 52 = some false := by kernel_rfl
theorem sz_52 : tySize Try.prog 52 = some 1 := by kernel_rfl
theorem by_52 : tyBytes Try.prog 52 = some 24 := by kernel_rfl
theorem zero_52 : tyZero Try.prog 52 = some [.nilsl] := by kernel_rfl
theorem elem_52 : tyElem Try.prog 52 = some 3 := by kernel_rfl
theorem arr_52 : tyArr Try.prog 52 = none := by kernel_rfl
theorem int_52 : tyInt Try.prog 52 = none := by kernel_rfl
theorem str_52 : tyStr Try.prog 52 = false := by kernel_rfl
theorem bool_52 : tyBool Try.prog 52 = false := by kernel_rfl
theorem ptr_52 : tyPtr Try.prog 52 = false := by kernel_rfl
theorem map_52 : tyMap Try.prog 52 = none := by kernel_rfl
theorem pl_52 : tyPlaces Try.prog 52 = none := by kernel_rfl
def ty_52 := And.intro und_52 <| And.intro agg_52 <| And.intro sz_52 <| And.intro by_52 <| And.intro zero_52 <| And.intro elem_52 <| And.intro arr_52 <| And.intro int_52 <| And.intro str_52 <| And.intro bool_52 <| And.intro ptr_52 <| And.intro map_52 <| pl_52
theorem und_61 : (Program.underlying Try.prog 61).isSome = true := by kernel_rfl
theorem agg_61 : tyAgg Try.prog 61 = some false := by kernel_rfl
theorem sz_61 : tySize Try.prog 61 = some 1 := by kernel_rfl
theorem by_61 : tyBytes Try.prog 61 = some 24 := by kernel_rfl
theorem zero_61 : tyZero Try.prog 61 = some [.nilsl] := by kernel_rfl
theorem elem_61 : tyElem Try.prog 61 = some 131 := by kernel_rfl
theorem arr_61 : tyArr Try.prog 61 = none := by kernel_rfl
theorem int_61 : tyInt Try.prog 61 = none := by kernel_rfl
theorem str_61 : tyStr Try.prog 61 = false := by kernel_rfl
theorem bool_61 : tyBool Try.prog 61 = false := by kernel_rfl
theorem ptr_61 : tyPtr Try.prog 61 = false := by kernel_rfl
theorem map_61 : tyMap Try.prog 61 = none := by kernel_rfl
theorem pl_61 : tyPlaces Try.prog 61 = none := by kernel_rfl
def ty_61 := And.intro und_61 <| And.intro agg_61 <| And.intro sz_61 <| And.intro by_61 <| And.intro zero_61 <| And.intro elem_61 <| And.intro arr_61 <| And.intro int_61 <| And.intro str_61 <| And.intro bool_61 <| And.intro ptr_61 <| And.intro map_61 <| pl_61
theorem und_63 : (Program.underlying Try.prog 63).isSome = true := by kernel_rfl
theorem agg_63 : tyAgg Try.prog 63 = some true := by kernel_rfl
theorem sz_63 : tySize Try.prog 63 = some 4 := by kernel_rfl
theorem by_63 : tyBytes Try.prog 63 = some 48 := by kernel_rfl
theorem zero_63 : tyZero Try.prog 63 = some [.c (.int .i64 0), .c (.int .i64 0), .c (.int .i64 0), .nilsl] := by kernel_rfl
theorem elem_63 : tyElem Try.prog 63 = none := by kernel_rfl
theorem arr_63 : tyArr Try.prog 63 = none := by kernel_rfl
theorem int_63 : tyInt Try.prog 63 = none := by kernel_rfl
theorem str_63 : tyStr Try.prog 63 = false := by kernel_rfl
theorem bool_63 : tyBool Try.prog 63 = false := by kernel_rfl
theorem ptr_63 : tyPtr Try.prog 63 = false := by kernel_rfl
theorem map_63 : tyMap Try.prog 63 = none := by kernel_rfl
theorem fd_63_0 : tyField Try.prog 63 0 = some (0, 3, 1) := by kernel_rfl
theorem fd_63_1 : tyField Try.prog 63 1 = some (1, 3, 1) := by kernel_rfl
theorem fd_63_2 : tyField Try.prog 63 2 = some (2, 3, 1) := by kernel_rfl
theorem fd_63_3 : tyField Try.prog 63 3 = some (3, 61, 1) := by kernel_rfl
theorem pl_63 : tyPlaces Try.prog 63 = some [(0, 1), (1, 1), (2, 1), (3, 1)] := by kernel_rfl
def ty_63 := And.intro und_63 <| And.intro agg_63 <| And.intro sz_63 <| And.intro by_63 <| And.intro zero_63 <| And.intro elem_63 <| And.intro arr_63 <| And.intro int_63 <| And.intro str_63 <| And.intro bool_63 <| And.intro ptr_63 <| And.intro map_63 <| And.intro fd_63_0 <| And.intro fd_63_1 <| And.intro fd_63_2 <| And.intro fd_63_3 <| pl_63
theorem und_71 : (Program.underlying Try.prog 71).isSome = true := by kernel_rfl
theorem agg_71 : tyAgg Try.prog 71 = some false := by kernel_rfl
theorem sz_71 : tySize Try.prog 71 = some 1 := by kernel_rfl
theorem by_71 : tyBytes Try.prog 71 = some 24 := by kernel_rfl
theorem zero_71 : tyZero Try.prog 71 = some [.nilsl] := by kernel_rfl
theorem elem_71 : tyElem Try.prog 71 = some 73 := by kernel_rfl
theorem arr_71 : tyArr Try.prog 71 = none := by kernel_rfl
theorem int_71 : tyInt Try.prog 71 = none := by kernel_rfl
theorem str_71 : tyStr Try.prog 71 = false := by kernel_rfl
theorem bool_71 : tyBool Try.prog 71 = false := by kernel_rfl
theorem ptr_71 : tyPtr Try.prog 71 = false := by kernel_rfl
theorem map_71 : tyMap Try.prog 71 = none := by kernel_rfl
theorem pl_71 : tyPlaces Try.prog 71 = none := by kernel_rfl
def ty_71 := And.intro und_71 <| And.intro agg_71 <| And.intro sz_71 <| And.intro by_71 <| And.intro zero_71 <| And.intro elem_71 <| And.intro arr_71 <| And.intro int_71 <| And.intro str_71 <| And.intro bool_71 <| And.intro ptr_71 <| And.intro map_71 <| pl_71
theorem und_73 : (Program.underlying Try.prog 73).isSome = true := by kernel_rfl
theorem agg_73 : tyAgg Try.prog 73 = some true := by kernel_rfl
theorem sz_73 : tySize Try.prog 73 = some 2 := by kernel_rfl
theorem by_73 : tyBytes Try.prog 73 = some 16 := by kernel_rfl
theorem zero_73 : tyZero Try.prog 73 = some [.c (.int .i64 0), .c (.int .i64 0)] := by kernel_rfl
theorem elem_73 : tyElem Try.prog 73 = none := by kernel_rfl
theorem arr_73 : tyArr Try.prog 73 = none := by kernel_rfl
theorem int_73 : tyInt Try.prog 73 = none := by kernel_rfl
theorem str_73 : tyStr Try.prog 73 = false := by kernel_rfl
theorem bool_73 : tyBool Try.prog 73 = false := by kernel_rfl
theorem ptr_73 : tyPtr Try.prog 73 = false := by kernel_rfl
theorem map_73 : tyMap Try.prog 73 = none := by kernel_rfl
theorem fd_73_0 : tyField Try.prog 73 0 = some (0, 3, 1) := by kernel_rfl
theorem fd_73_1 : tyField Try.prog 73 1 = some (1, 3, 1) := by kernel_rfl
theorem pl_73 : tyPlaces Try.prog 73 = some [(0, 1), (1, 1)] := by kernel_rfl
def ty_73 := And.intro und_73 <| And.intro agg_73 <| And.intro sz_73 <| And.intro by_73 <| And.intro zero_73 <| And.intro elem_73 <| And.intro arr_73 <| And.intro int_73 <| And.intro str_73 <| And.intro bool_73 <| And.intro ptr_73 <| And.intro map_73 <| And.intro fd_73_0 <| And.intro fd_73_1 <| pl_73
theorem und_120 : (Program.underlying Try.prog 120).isSome = true := by kernel_rfl
theorem agg_120 : tyAgg Try.prog 120 = some false := by kernel_rfl
theorem sz_120 : tySize Try.prog 120 = some 1 := by kernel_rfl
theorem by_120 : tyBytes Try.prog 120 = some 8 := by kernel_rfl
theorem zero_120 : tyZero Try.prog 120 = some [.c (.int .u64 0)] := by kernel_rfl
theorem elem_120 : tyElem Try.prog 120 = none := by kernel_rfl
theorem arr_120 : tyArr Try.prog 120 = none := by kernel_rfl
theorem int_120 : tyInt Try.prog 120 = some .u64 := by kernel_rfl
theorem str_120 : tyStr Try.prog 120 = false := by kernel_rfl
theorem bool_120 : tyBool Try.prog 120 = false := by kernel_rfl
theorem ptr_120 : tyPtr Try.prog 120 = false := by kernel_rfl
theorem map_120 : tyMap Try.prog 120 = none := by kernel_rfl
theorem pl_120 : tyPlaces Try.prog 120 = none := by kernel_rfl
def ty_120 := And.intro und_120 <| And.intro agg_120 <| And.intro sz_120 <| And.intro by_120 <| And.intro zero_120 <| And.intro elem_120 <| And.intro arr_120 <| And.intro int_120 <| And.intro str_120 <| And.intro bool_120 <| And.intro ptr_120 <| And.intro map_120 <| pl_120
theorem und_123 : (Program.underlying Try.prog 123).isSome = true := by kernel_rfl
theorem agg_123 : tyAgg Try.prog 123 = some false := by kernel_rfl
theorem sz_123 : tySize Try.prog 123 = some 1 := by kernel_rfl
theorem by_123 : tyBytes Try.prog 123 = some 24 := by kernel_rfl
theorem zero_123 : tyZero Try.prog 123 = some [.nilsl] := by kernel_rfl
theorem elem_123 : tyElem Try.prog 123 = some 63 := by kernel_rfl
theorem arr_123 : tyArr Try.prog 123 = none := by kernel_rfl
theorem int_123 : tyInt Try.prog 123 = none := by kernel_rfl
theorem str_123 : tyStr Try.prog 123 = false := by kernel_rfl
theorem bool_123 : tyBool Try.prog 123 = false := by kernel_rfl
theorem ptr_123 : tyPtr Try.prog 123 = false := by kernel_rfl
theorem map_123 : tyMap Try.prog 123 = none := by kernel_rfl
theorem pl_123 : tyPlaces Try.prog 123 = none := by kernel_rfl
def ty_123 := And.intro und_123 <| And.intro agg_123 <| And.intro sz_123 <| And.intro by_123 <| And.intro zero_123 <| And.intro elem_123 <| And.intro arr_123 <| And.intro int_123 <| And.intro str_123 <| And.intro bool_123 <| And.intro ptr_123 <| And.intro map_123 <| pl_123
theorem und_125 : (Program.underlying Try.prog 125).isSome = true := by kernel_rfl
theorem agg_125 : tyAgg Try.prog 125 = some false := by kernel_rfl
theorem sz_125 : tySize Try.prog 125 = some 1 := by kernel_rfl
theorem by_125 : tyBytes Try.prog 125 = some 8 := by kernel_rfl
theorem zero_125 : tyZero Try.prog 125 = some [.nilptr] := by kernel_rfl
theorem elem_125 : tyElem Try.prog 125 = none := by kernel_rfl
theorem arr_125 : tyArr Try.prog 125 = none := by kernel_rfl
theorem int_125 : tyInt Try.prog 125 = none := by kernel_rfl
theorem str_125 : tyStr Try.prog 125 = false := by kernel_rfl
theorem bool_125 : tyBool Try.prog 125 = false := by kernel_rfl
theorem ptr_125 : tyPtr Try.prog 125 = true := by kernel_rfl
theorem map_125 : tyMap Try.prog 125 = none := by kernel_rfl
theorem pl_125 : tyPlaces Try.prog 125 = none := by kernel_rfl
def ty_125 := And.intro und_125 <| And.intro agg_125 <| And.intro sz_125 <| And.intro by_125 <| And.intro zero_125 <| And.intro elem_125 <| And.intro arr_125 <| And.intro int_125 <| And.intro str_125 <| And.intro bool_125 <| And.intro ptr_125 <| And.intro map_125 <| pl_125
theorem und_128 : (Program.underlying Try.prog 128).isSome = true := by kernel_rfl
theorem agg_128 : tyAgg Try.prog 128 = some true := by kernel_rfl
theorem sz_128 : tySize Try.prog 128 = some 4 := by kernel_rfl
theorem by_128 : tyBytes Try.prog 128 = some 32 := by kernel_rfl
theorem zero_128 : tyZero Try.prog 128 = some [.c (.int .i64 0), .c (.int .i64 0), .c (.int .i64 0), .c (.int .i64 0)] := by kernel_rfl
theorem elem_128 : tyElem Try.prog 128 = none := by kernel_rfl
theorem arr_128 : tyArr Try.prog 128 = some (4, 3) := by kernel_rfl
theorem int_128 : tyInt Try.prog 128 = none := by kernel_rfl
theorem str_128 : tyStr Try.prog 128 = false := by kernel_rfl
theorem bool_128 : tyBool Try.prog 128 = false := by kernel_rfl
theorem ptr_128 : tyPtr Try.prog 128 = false := by kernel_rfl
theorem map_128 : tyMap Try.prog 128 = none := by kernel_rfl
theorem pl_128 : tyPlaces Try.prog 128 = none := by kernel_rfl
def ty_128 := And.intro und_128 <| And.intro agg_128 <| And.intro sz_128 <| And.intro by_128 <| And.intro zero_128 <| And.intro elem_128 <| And.intro arr_128 <| And.intro int_128 <| And.intro str_128 <| And.intro bool_128 <| And.intro ptr_128 <| And.intro map_128 <| pl_128
theorem und_131 : (Program.underlying Try.prog 131).isSome = true := by kernel_rfl
theorem agg_131 : tyAgg Try.prog 131 = some true := by kernel_rfl
theorem sz_131 : tySize Try.prog 131 = some 2 := by kernel_rfl
theorem by_131 : tyBytes Try.prog 131 = some 16 := by kernel_rfl
theorem zero_131 : tyZero Try.prog 131 = some [.c (.int .i64 0), .c (.int .i64 0)] := by kernel_rfl
theorem elem_131 : tyElem Try.prog 131 = none := by kernel_rfl
theorem arr_131 : tyArr Try.prog 131 = none := by kernel_rfl
theorem int_131 : tyInt Try.prog 131 = none := by kernel_rfl
theorem str_131 : tyStr Try.prog 131 = false := by kernel_rfl
theorem bool_131 : tyBool Try.prog 131 = false := by kernel_rfl
theorem ptr_131 : tyPtr Try.prog 131 = false := by kernel_rfl
theorem map_131 : tyMap Try.prog 131 = none := by kernel_rfl
theorem fd_131_0 : tyField Try.prog 131 0 = some (0, 3, 1) := by kernel_rfl
theorem fd_131_1 : tyField Try.prog 131 1 = some (1, 3, 1) := by kernel_rfl
theorem pl_131 : tyPlaces Try.prog 131 = some [(0, 1), (1, 1)] := by kernel_rfl
def ty_131 := And.intro und_131 <| And.intro agg_131 <| And.intro sz_131 <| And.intro by_131 <| And.intro zero_131 <| And.intro elem_131 <| And.intro arr_131 <| And.intro int_131 <| And.intro str_131 <| And.intro bool_131 <| And.intro ptr_131 <| And.intro map_131 <| And.intro fd_131_0 <| And.intro fd_131_1 <| pl_131
theorem und_134 : (Program.underlying Try.prog 134).isSome = true := by kernel_rfl
theorem agg_134 : tyAgg Try.prog 134 = some false := by kernel_rfl
theorem sz_134 : tySize Try.prog 134 = some 1 := by kernel_rfl
theorem by_134 : tyBytes Try.prog 134 = some 8 := by kernel_rfl
theorem zero_134 : tyZero Try.prog 134 = some [.nilptr] := by kernel_rfl
theorem elem_134 : tyElem Try.prog 134 = none := by kernel_rfl
theorem arr_134 : tyArr Try.prog 134 = none := by kernel_rfl
theorem int_134 : tyInt Try.prog 134 = none := by kernel_rfl
theorem str_134 : tyStr Try.prog 134 = false := by kernel_rfl
theorem bool_134 : tyBool Try.prog 134 = false := by kernel_rfl
theorem ptr_134 : tyPtr Try.prog 134 = true := by kernel_rfl
theorem map_134 : tyMap Try.prog 134 = none := by kernel_rfl
theorem pl_134 : tyPlaces Try.prog 134 = none := by kernel_rfl
def ty_134 := And.intro und_134 <| And.intro agg_134 <| And.intro sz_134 <| And.intro by_134 <| And.intro zero_134 <| And.intro elem_134 <| And.intro arr_134 <| And.intro int_134 <| And.intro str_134 <| And.intro bool_134 <| And.intro ptr_134 <| And.intro map_134 <| pl_134
theorem und_142 : (Program.underlying Try.prog 142).isSome = true := by kernel_rfl
theorem agg_142 : tyAgg Try.prog 142 = some true := by kernel_rfl
theorem sz_142 : tySize Try.prog 142 = some 3 := by kernel_rfl
theorem by_142 : tyBytes Try.prog 142 = some 24 := by kernel_rfl
theorem zero_142 : tyZero Try.prog 142 = some [.c (.int .i64 0), .c (.int .i64 0), .c (.int .i64 0)] := by kernel_rfl
theorem elem_142 : tyElem Try.prog 142 = none := by kernel_rfl
theorem arr_142 : tyArr Try.prog 142 = some (3, 3) := by kernel_rfl
theorem int_142 : tyInt Try.prog 142 = none := by kernel_rfl
theorem str_142 : tyStr Try.prog 142 = false := by kernel_rfl
theorem bool_142 : tyBool Try.prog 142 = false := by kernel_rfl
theorem ptr_142 : tyPtr Try.prog 142 = false := by kernel_rfl
theorem map_142 : tyMap Try.prog 142 = none := by kernel_rfl
theorem pl_142 : tyPlaces Try.prog 142 = none := by kernel_rfl
def ty_142 := And.intro und_142 <| And.intro agg_142 <| And.intro sz_142 <| And.intro by_142 <| And.intro zero_142 <| And.intro elem_142 <| And.intro arr_142 <| And.intro int_142 <| And.intro str_142 <| And.intro bool_142 <| And.intro ptr_142 <| And.intro map_142 <| pl_142
theorem und_159 : (Program.underlying Try.prog 159).isSome = true := by kernel_rfl
theorem agg_159 : tyAgg Try.prog 159 = some true := by kernel_rfl
theorem sz_159 : tySize Try.prog 159 = some 3 := by kernel_rfl
theorem by_159 : tyBytes Try.prog 159 = some 40 := by kernel_rfl
theorem zero_159 : tyZero Try.prog 159 = some [.nilsl, .c (.int .i64 0), .c (.bool false)] := by kernel_rfl
theorem elem_159 : tyElem Try.prog 159 = none := by kernel_rfl
theorem arr_159 : tyArr Try.prog 159 = none := by kernel_rfl
theorem int_159 : tyInt Try.prog 159 = none := by kernel_rfl
theorem str_159 : tyStr Try.prog 159 = false := by kernel_rfl
theorem bool_159 : tyBool Try.prog 159 = false := by kernel_rfl
theorem ptr_159 : tyPtr Try.prog 159 = false := by kernel_rfl
theorem map_159 : tyMap Try.prog 159 = none := by kernel_rfl
theorem fd_159_0 : tyField Try.prog 159 0 = some (0, 49, 1) := by kernel_rfl
theorem fd_159_1 : tyField Try.prog 159 1 = some (1, 26, 1) := by kernel_rfl
theorem fd_159_2 : tyField Try.prog 159 2 = some (2, 4, 1) := by kernel_rfl
theorem pl_159 : tyPlaces Try.prog 159 = some [(0, 1), (1, 1), (2, 1)] := by kernel_rfl
def ty_159 := And.intro und_159 <| And.intro agg_159 <| And.intro sz_159 <| And.intro by_159 <| And.intro zero_159 <| And.intro elem_159 <| And.intro arr_159 <| And.intro int_159 <| And.intro str_159 <| And.intro bool_159 <| And.intro ptr_159 <| And.intro map_159 <| And.intro fd_159_0 <| And.intro fd_159_1 <| And.intro fd_159_2 <| pl_159
theorem und_161 : (Program.underlying Try.prog 161).isSome = true := by kernel_rfl
theorem agg_161 : tyAgg Try.prog 161 = some true := by kernel_rfl
theorem sz_161 : tySize Try.prog 161 = some 3 := by kernel_rfl
theorem by_161 : tyBytes Try.prog 161 = some 40 := by kernel_rfl
theorem zero_161 : tyZero Try.prog 161 = some [.nilsl, .c (.int .i64 0), .c (.bool false)] := by kernel_rfl
theorem elem_161 : tyElem Try.prog 161 = none := by kernel_rfl
theorem arr_161 : tyArr Try.prog 161 = none := by kernel_rfl
theorem int_161 : tyInt Try.prog 161 = none := by kernel_rfl
theorem str_161 : tyStr Try.prog 161 = false := by kernel_rfl
theorem bool_161 : tyBool Try.prog 161 = false := by kernel_rfl
theorem ptr_161 : tyPtr Try.prog 161 = false := by kernel_rfl
theorem map_161 : tyMap Try.prog 161 = none := by kernel_rfl
theorem fd_161_0 : tyField Try.prog 161 0 = some (0, 49, 1) := by kernel_rfl
theorem fd_161_1 : tyField Try.prog 161 1 = some (1, 26, 1) := by kernel_rfl
theorem fd_161_2 : tyField Try.prog 161 2 = some (2, 4, 1) := by kernel_rfl
theorem pl_161 : tyPlaces Try.prog 161 = some [(0, 1), (1, 1), (2, 1)] := by kernel_rfl
def ty_161 := And.intro und_161 <| And.intro agg_161 <| And.intro sz_161 <| And.intro by_161 <| And.intro zero_161 <| And.intro elem_161 <| And.intro arr_161 <| And.intro int_161 <| And.intro str_161 <| And.intro bool_161 <| And.intro ptr_161 <| And.intro map_161 <| And.intro fd_161_0 <| And.intro fd_161_1 <| And.intro fd_161_2 <| pl_161
theorem und_164 : (Program.underlying Try.prog 164).isSome = true := by kernel_rfl
theorem agg_164 : tyAgg Try.prog 164 = some false := by kernel_rfl
theorem sz_164 : tySize Try.prog 164 = some 1 := by kernel_rfl
theorem by_164 : tyBytes Try.prog 164 = some 8 := by kernel_rfl
theorem zero_164 : tyZero Try.prog 164 = some [.c (.int .u64 0)] := by kernel_rfl
theorem elem_164 : tyElem Try.prog 164 = none := by kernel_rfl
theorem arr_164 : tyArr Try.prog 164 = none := by kernel_rfl
theorem int_164 : tyInt Try.prog 164 = some .u64 := by kernel_rfl
theorem str_164 : tyStr Try.prog 164 = false := by kernel_rfl
theorem bool_164 : tyBool Try.prog 164 = false := by kernel_rfl
theorem ptr_164 : tyPtr Try.prog 164 = false := by kernel_rfl
theorem map_164 : tyMap Try.prog 164 = none := by kernel_rfl
theorem pl_164 : tyPlaces Try.prog 164 = none := by kernel_rfl
def ty_164 := And.intro und_164 <| And.intro agg_164 <| And.intro sz_164 <| And.intro by_164 <| And.intro zero_164 <| And.intro elem_164 <| And.intro arr_164 <| And.intro int_164 <| And.intro str_164 <| And.intro bool_164 <| And.intro ptr_164 <| And.intro map_164 <| pl_164
theorem und_167 : (Program.underlying Try.prog 167).isSome = true := by kernel_rfl
theorem agg_167 : tyAgg Try.prog 167 = some false := by kernel_rfl
theorem sz_167 : tySize Try.prog 167 = some 1 := by kernel_rfl
theorem by_167 : tyBytes Try.prog 167 = some 24 := by kernel_rfl
theorem zero_167 : tyZero Try.prog 167 = some [.nilsl] := by kernel_rfl
theorem elem_167 : tyElem Try.prog 167 = some 49 := by kernel_rfl
theorem arr_167 : tyArr Try.prog 167 = none := by kernel_rfl
theorem int_167 : tyInt Try.prog 167 = none := by kernel_rfl
theorem str_167 : tyStr Try.prog 167 = false := by kernel_rfl
theorem bool_167 : tyBool Try.prog 167 = false := by kernel_rfl
theorem ptr_167 : tyPtr Try.prog 167 = false := by kernel_rfl
theorem map_167 : tyMap Try.prog 167 = none := by kernel_rfl
theorem pl_167 : tyPlaces Try.prog 167 = none := by kernel_rfl
def ty_167 := And.intro und_167 <| And.intro agg_167 <| And.intro sz_167 <| And.intro by_167 <| And.intro zero_167 <| And.intro elem_167 <| And.intro arr_167 <| And.intro int_167 <| And.intro str_167 <| And.intro bool_167 <| And.intro ptr_167 <| And.intro map_167 <| pl_167
theorem und_175 : (Program.underlying Try.prog 175).isSome = true := by kernel_rfl
theorem agg_175 : tyAgg Try.prog 175 = some false := by kernel_rfl
theorem sz_175 : tySize Try.prog 175 = some 1 := by kernel_rfl
theorem by_175 : tyBytes Try.prog 175 = some 4 := by kernel_rfl
theorem zero_175 : tyZero Try.prog 175 = some [.c (.int .u32 0)] := by kernel_rfl
theorem elem_175 : tyElem Try.prog 175 = none := by kernel_rfl
theorem arr_175 : tyArr Try.prog 175 = none := by kernel_rfl
theorem int_175 : tyInt Try.prog 175 = some .u32 := by kernel_rfl
theorem str_175 : tyStr Try.prog 175 = false := by kernel_rfl
theorem bool_175 : tyBool Try.prog 175 = false := by kernel_rfl
theorem ptr_175 : tyPtr Try.prog 175 = false := by kernel_rfl
theorem map_175 : tyMap Try.prog 175 = none := by kernel_rfl
theorem pl_175 : tyPlaces Try.prog 175 = none := by kernel_rfl
def ty_175 := And.intro und_175 <| And.intro agg_175 <| And.intro sz_175 <| And.intro by_175 <| And.intro zero_175 <| And.intro elem_175 <| And.intro arr_175 <| And.intro int_175 <| And.intro str_175 <| And.intro bool_175 <| And.intro ptr_175 <| And.intro map_175 <| pl_175
theorem und_176 : (Program.underlying Try.prog 176).isSome = true := by kernel_rfl
theorem agg_176 : tyAgg Try.prog 176 = some true := by kernel_rfl
theorem sz_176 : tySize Try.prog 176 = some 64 := by kernel_rfl
theorem by_176 : tyBytes Try.prog 176 = some 256 := by kernel_rfl
theorem zero_176 : tyZero Try.prog 176 = some (zrep 64 (.c (.int .u32 0))) := by kernel_rfl
theorem elem_176 : tyElem Try.prog 176 = none := by kernel_rfl
theorem arr_176 : tyArr Try.prog 176 = some (64, 175) := by kernel_rfl
theorem int_176 : tyInt Try.prog 176 = none := by kernel_rfl
theorem str_176 : tyStr Try.prog 176 = false := by kernel_rfl
theorem bool_176 : tyBool Try.prog 176 = false := by kernel_rfl
theorem ptr_176 : tyPtr Try.prog 176 = false := by kernel_rfl
theorem map_176 : tyMap Try.prog 176 = none := by kernel_rfl
theorem pl_176 : tyPlaces Try.prog 176 = none := by kernel_rfl
def ty_176 := And.intro und_176 <| And.intro agg_176 <| And.intro sz_176 <| And.intro by_176 <| And.intro zero_176 <| And.intro elem_176 <| And.intro arr_176 <| And.intro int_176 <| And.intro str_176 <| And.intro bool_176 <| And.intro ptr_176 <| And.intro map_176 <| pl_176
theorem und_178 : (Program.underlying Try.prog 178).isSome = true := by kernel_rfl
theorem agg_178 : tyAgg Try.prog 178 = some true := by kernel_rfl
theorem sz_178 : tySize Try.prog 178 = some 8 := by kernel_rfl
theorem by_178 : tyBytes Try.prog 178 = some 32 := by kernel_rfl
theorem zero_178 : tyZero Try.prog 178 = some [.c (.int .u32 0), .c (.int .u32 0), .c (.int .u32 0), .c (.int .u32 0), .c (.int .u32 0), .c (.int .u32 0), .c (.int .u32 0), .c (.int .u32 0)] := by kernel_rfl
theorem elem_178 : tyElem Try.prog 178 = none := by kernel_rfl
theorem arr_178 : tyArr Try.prog 178 = some (8, 175) := by kernel_rfl
theorem int_178 : tyInt Try.prog 178 = none := by kernel_rfl
theorem str_178 : tyStr Try.prog 178 = false := by kernel_rfl
theorem bool_178 : tyBool Try.prog 178 = false := by kernel_rfl
theorem ptr_178 : tyPtr Try.prog 178 = false := by kernel_rfl
theorem map_178 : tyMap Try.prog 178 = none := by kernel_rfl
theorem pl_178 : tyPlaces Try.prog 178 = none := by kernel_rfl
def ty_178 := And.intro und_178 <| And.intro agg_178 <| And.intro sz_178 <| And.intro by_178 <| And.intro zero_178 <| And.intro elem_178 <| And.intro arr_178 <| And.intro int_178 <| And.intro str_178 <| And.intro bool_178 <| And.intro ptr_178 <| And.intro map_178 <| pl_178
theorem und_193 : (Program.underlying Try.prog 193).isSome = true := by kernel_rfl
theorem agg_193 : tyAgg Try.prog 193 = some true := by kernel_rfl
theorem sz_193 : tySize Try.prog 193 = some 8 := by kernel_rfl
theorem by_193 : tyBytes Try.prog 193 = some 32 := by kernel_rfl
theorem zero_193 : tyZero Try.prog 193 = some [.c (.int .u32 0), .c (.int .u32 0), .c (.int .u32 0), .c (.int .u32 0), .c (.int .u32 0), .c (.int .u32 0), .c (.int .u32 0), .c (.int .u32 0)] := by kernel_rfl
theorem elem_193 : tyElem Try.prog 193 = none := by kernel_rfl
theorem arr_193 : tyArr Try.prog 193 = some (8, 175) := by kernel_rfl
theorem int_193 : tyInt Try.prog 193 = none := by kernel_rfl
theorem str_193 : tyStr Try.prog 193 = false := by kernel_rfl
theorem bool_193 : tyBool Try.prog 193 = false := by kernel_rfl
theorem ptr_193 : tyPtr Try.prog 193 = false := by kernel_rfl
theorem map_193 : tyMap Try.prog 193 = none := by kernel_rfl
theorem pl_193 : tyPlaces Try.prog 193 = none := by kernel_rfl
def ty_193 := And.intro und_193 <| And.intro agg_193 <| And.intro sz_193 <| And.intro by_193 <| And.intro zero_193 <| And.intro elem_193 <| And.intro arr_193 <| And.intro int_193 <| And.intro str_193 <| And.intro bool_193 <| And.intro ptr_193 <| And.intro map_193 <| pl_193
theorem und_196 : (Program.underlying Try.prog 196).isSome = true := by kernel_rfl
theorem agg_196 : tyAgg Try.prog 196 = some false := by kernel_rfl
theorem sz_196 : tySize Try.prog 196 = some 1 := by kernel_rfl
theorem by_196 : tyBytes Try.prog 196 = some 8 := by kernel_rfl
theorem zero_196 : tyZero Try.prog 196 = some [.nilptr] := by kernel_rfl
theorem elem_196 : tyElem Try.prog 196 = none := by kernel_rfl
theorem arr_196 : tyArr Try.prog 196 = none := by kernel_rfl
theorem int_196 : tyInt Try.prog 196 = none := by kernel_rfl
theorem str_196 : tyStr Try.prog 196 = false := by kernel_rfl
theorem bool_196 : tyBool Try.prog 196 = false := by kernel_rfl
theorem ptr_196 : tyPtr Try.prog 196 = true := by kernel_rfl
theorem map_196 : tyMap Try.prog 196 = none := by kernel_rfl
theorem pl_196 : tyPlaces Try.prog 196 = none := by kernel_rfl
def ty_196 := And.intro und_196 <| And.intro agg_196 <| And.intro sz_196 <| And.intro by_196 <| And.intro zero_196 <| And.intro elem_196 <| And.intro arr_196 <| And.intro int_196 <| And.intro str_196 <| And.intro bool_196 <| And.intro ptr_196 <| And.intro map_196 <| pl_196
theorem und_198 : (Program.underlying Try.prog 198).isSome = true := by kernel_rfl
theorem agg_198 : tyAgg Try.prog 198 = some false := by kernel_rfl
theorem sz_198 : tySize Try.prog 198 = some 1 := by kernel_rfl
theorem by_198 : tyBytes Try.prog 198 = some 24 := by kernel_rfl
theorem zero_198 : tyZero Try.prog 198 = some [.nilsl] := by kernel_rfl
theorem elem_198 : tyElem Try.prog 198 = some 175 := by kernel_rfl
theorem arr_198 : tyArr Try.prog 198 = none := by kernel_rfl
theorem int_198 : tyInt Try.prog 198 = none := by kernel_rfl
theorem str_198 : tyStr Try.prog 198 = false := by kernel_rfl
theorem bool_198 : tyBool Try.prog 198 = false := by kernel_rfl
theorem ptr_198 : tyPtr Try.prog 198 = false := by kernel_rfl
theorem map_198 : tyMap Try.prog 198 = none := by kernel_rfl
theorem pl_198 : tyPlaces Try.prog 198 = none := by kernel_rfl
def ty_198 := And.intro und_198 <| And.intro agg_198 <| And.intro sz_198 <| And.intro by_198 <| And.intro zero_198 <| And.intro elem_198 <| And.intro arr_198 <| And.intro int_198 <| And.intro str_198 <| And.intro bool_198 <| And.intro ptr_198 <| And.intro map_198 <| pl_198
theorem nt_121 : Try.f121.ntmps = 13 := by kernel_rfl
theorem rs_121 : Try.f121.results.toList = [] := by kernel_rfl
theorem nt_83 : Try.f83.ntmps = 40 := by kernel_rfl
theorem rs_83 : Try.f83.results.toList = [] := by kernel_rfl
theorem nt_123 : Try.f123.ntmps = 8 := by kernel_rfl
theorem rs_123 : Try.f123.results.toList = [.tmp 2] := by kernel_rfl
theorem nt_122 : Try.f122.ntmps = 26 := by kernel_rfl
theorem rs_122 : Try.f122.results.toList = [.tmp 4] := by kernel_rfl
theorem nt_150 : Try.f150.ntmps = 4 := by kernel_rfl
theorem rs_150 : Try.f150.results.toList = [.tmp 2] := by kernel_rfl
theorem nt_177 : Try.f177.ntmps = 19 := by kernel_rfl
theorem rs_177 : Try.f177.results.toList = [] := by kernel_rfl
theorem nt_92 : Try.f92.ntmps = 29 := by kernel_rfl
theorem rs_92 : Try.f92.results.toList = [.tmp 4] := by kernel_rfl
theorem nt_188 : Try.f188.ntmps = 33 := by kernel_rfl
theorem rs_188 : Try.f188.results.toList = [.tmp 4] := by kernel_rfl
theorem nt_158 : Try.f158.ntmps = 32 := by kernel_rfl
theorem rs_158 : Try.f158.results.toList = [.tmp 2] := by kernel_rfl
theorem nt_132 : Try.f132.ntmps = 5 := by kernel_rfl
theorem rs_132 : Try.f132.results.toList = [.tmp 2] := by kernel_rfl
theorem nt_159 : Try.f159.ntmps = 36 := by kernel_rfl
theorem rs_159 : Try.f159.results.toList = [.tmp 2] := by kernel_rfl
theorem nt_180 : Try.f180.ntmps = 27 := by kernel_rfl
theorem rs_180 : Try.f180.results.toList = [.tmp 4] := by kernel_rfl
theorem nt_189 : Try.f189.ntmps = 17 := by kernel_rfl
theorem rs_189 : Try.f189.results.toList = [.tmp 4] := by kernel_rfl
theorem nt_179 : Try.f179.ntmps = 9 := by kernel_rfl
theorem rs_179 : Try.f179.results.toList = [.tmp 4] := by kernel_rfl
theorem nt_178 : Try.f178.ntmps = 64 := by kernel_rfl
theorem rs_178 : Try.f178.results.toList = [.cell 2 176] := by kernel_rfl
theorem nt_154 : Try.f154.ntmps = 2 := by kernel_rfl
theorem rs_154 : Try.f154.results.toList = [.cell 0 193] := by kernel_rfl
theorem nt_155 : Try.f155.ntmps = 2 := by kernel_rfl
theorem rs_155 : Try.f155.results.toList = [.cell 0 176] := by kernel_rfl
theorem nt_156 : Try.f156.ntmps = 19 := by kernel_rfl
theorem rs_156 : Try.f156.results.toList = [.tmp 2] := by kernel_rfl
theorem nt_157 : Try.f157.ntmps = 119 := by kernel_rfl
theorem rs_157 : Try.f157.results.toList = [.cell 6 193] := by kernel_rfl
theorem nt_131 : Try.f131.ntmps = 21 := by kernel_rfl
theorem rs_131 : Try.f131.results.toList = [.tmp 2] := by kernel_rfl
theorem nt_102 : Try.f102.ntmps = 7 := by kernel_rfl
theorem rs_102 : Try.f102.results.toList = [.tmp 2] := by kernel_rfl
theorem nt_96 : Try.f96.ntmps = 6 := by kernel_rfl
theorem rs_96 : Try.f96.results.toList = [.tmp 2] := by kernel_rfl
theorem nt_110 : Try.f110.ntmps = 239 := by kernel_rfl
theorem rs_110 : Try.f110.results.toList = [.tmp 2] := by kernel_rfl
theorem nt_138 : Try.f138.ntmps = 2 := by kernel_rfl
theorem rs_138 : Try.f138.results.toList = [.cell 0 176] := by kernel_rfl
theorem nt_139 : Try.f139.ntmps = 22 := by kernel_rfl
theorem rs_139 : Try.f139.results.toList = [.tmp 2] := by kernel_rfl
theorem nt_140 : Try.f140.ntmps = 13 := by kernel_rfl
theorem rs_140 : Try.f140.results.toList = [.tmp 4] := by kernel_rfl
theorem nt_66 : Try.f66.ntmps = 7 := by kernel_rfl
theorem rs_66 : Try.f66.results.toList = [.tmp 2] := by kernel_rfl
theorem nt_108 : Try.f108.ntmps = 20 := by kernel_rfl
theorem rs_108 : Try.f108.results.toList = [.tmp 6] := by kernel_rfl
theorem nt_107 : Try.f107.ntmps = 16 := by kernel_rfl
theorem rs_107 : Try.f107.results.toList = [.tmp 4] := by kernel_rfl
theorem nt_109 : Try.f109.ntmps = 19 := by kernel_rfl
theorem rs_109 : Try.f109.results.toList = [.tmp 2] := by kernel_rfl
theorem nt_63 : Try.f63.ntmps = 21 := by kernel_rfl
theorem rs_63 : Try.f63.results.toList = [.tmp 4] := by kernel_rfl
theorem nt_16 : Try.f16.ntmps = 38 := by kernel_rfl
theorem rs_16 : Try.f16.results.toList = [.cell 4 25, .tmp 5] := by kernel_rfl
theorem nt_62 : Try.f62.ntmps = 13 := by kernel_rfl
theorem rs_62 : Try.f62.results.toList = [.tmp 2] := by kernel_rfl
theorem nt_65 : Try.f65.ntmps = 27 := by kernel_rfl
theorem rs_65 : Try.f65.results.toList = [.tmp 6] := by kernel_rfl
theorem nt_64 : Try.f64.ntmps = 19 := by kernel_rfl
theorem rs_64 : Try.f64.results.toList = [.tmp 4] := by kernel_rfl
theorem nt_17 : Try.f17.ntmps = 20 := by kernel_rfl
theorem rs_17 : Try.f17.results.toList = [.tmp 4] := by kernel_rfl
theorem nt_15 : Try.f15.ntmps = 3 := by kernel_rfl
theorem rs_15 : Try.f15.results.toList = [.tmp 0] := by kernel_rfl
theorem nt_3 : Try.f3.ntmps = 51 := by kernel_rfl
theorem rs_3 : Try.f3.results.toList = [.tmp 4] := by kernel_rfl
theorem nt_28 : Try.f28.ntmps = 20 := by kernel_rfl
theorem rs_28 : Try.f28.results.toList = [.cell 2 25] := by kernel_rfl
theorem nt_75 : Try.f75.ntmps = 9 := by kernel_rfl
theorem rs_75 : Try.f75.results.toList = [.tmp 2] := by kernel_rfl
theorem nt_72 : Try.f72.ntmps = 46 := by kernel_rfl
theorem rs_72 : Try.f72.results.toList = [.tmp 2] := by kernel_rfl
theorem nt_5 : Try.f5.ntmps = 51 := by kernel_rfl
theorem rs_5 : Try.f5.results.toList = [.tmp 2] := by kernel_rfl
theorem nt_30 : Try.f30.ntmps = 9 := by kernel_rfl
theorem rs_30 : Try.f30.results.toList = [.tmp 0] := by kernel_rfl
theorem nt_29 : Try.f29.ntmps = 45 := by kernel_rfl
theorem rs_29 : Try.f29.results.toList = [.tmp 4] := by kernel_rfl
theorem nt_31 : Try.f31.ntmps = 20 := by kernel_rfl
theorem rs_31 : Try.f31.results.toList = [.cell 2 25] := by kernel_rfl
theorem nt_76 : Try.f76.ntmps = 9 := by kernel_rfl
theorem rs_76 : Try.f76.results.toList = [.tmp 2] := by kernel_rfl
theorem nt_68 : Try.f68.ntmps = 43 := by kernel_rfl
theorem rs_68 : Try.f68.results.toList = [.tmp 2] := by kernel_rfl
theorem nt_32 : Try.f32.ntmps = 9 := by kernel_rfl
theorem rs_32 : Try.f32.results.toList = [.tmp 0] := by kernel_rfl
theorem nt_6 : Try.f6.ntmps = 51 := by kernel_rfl
theorem rs_6 : Try.f6.results.toList = [.tmp 2] := by kernel_rfl
theorem nt_112 : Try.f112.ntmps = 28 := by kernel_rfl
theorem rs_112 : Try.f112.results.toList = [.tmp 2] := by kernel_rfl
theorem nt_113 : Try.f113.ntmps = 17 := by kernel_rfl
theorem rs_113 : Try.f113.results.toList = [.tmp 2] := by kernel_rfl
theorem nt_152 : Try.f152.ntmps = 25 := by kernel_rfl
theorem rs_152 : Try.f152.results.toList = [.tmp 2] := by kernel_rfl
theorem nt_97 : Try.f97.ntmps = 15 := by kernel_rfl
theorem rs_97 : Try.f97.results.toList = [.tmp 2] := by kernel_rfl
theorem nt_93 : Try.f93.ntmps = 42 := by kernel_rfl
theorem rs_93 : Try.f93.results.toList = [.tmp 4, .tmp 5] := by kernel_rfl
theorem nt_98 : Try.f98.ntmps = 36 := by kernel_rfl
theorem rs_98 : Try.f98.results.toList = [.tmp 6] := by kernel_rfl
theorem nt_128 : Try.f128.ntmps = 4 := by kernel_rfl
theorem rs_128 : Try.f128.results.toList = [.tmp 2] := by kernel_rfl
theorem nt_151 : Try.f151.ntmps = 13 := by kernel_rfl
theorem rs_151 : Try.f151.results.toList = [] := by kernel_rfl
theorem nt_45 : Try.f45.ntmps = 53 := by kernel_rfl
theorem rs_45 : Try.f45.results.toList = [.tmp 4, .tmp 5] := by kernel_rfl
theorem nt_95 : Try.f95.ntmps = 39 := by kernel_rfl
theorem rs_95 : Try.f95.results.toList = [.tmp 2] := by kernel_rfl
theorem nt_48 : Try.f48.ntmps = 14 := by kernel_rfl
theorem rs_48 : Try.f48.results.toList = [.tmp 2] := by kernel_rfl
theorem nt_53 : Try.f53.ntmps = 38 := by kernel_rfl
theorem rs_53 : Try.f53.results.toList = [.tmp 6] := by kernel_rfl
theorem nt_49 : Try.f49.ntmps = 26 := by kernel_rfl
theorem rs_49 : Try.f49.results.toList = [.tmp 4] := by kernel_rfl
theorem nt_81 : Try.f81.ntmps = 3 := by kernel_rfl
theorem rs_81 : Try.f81.results.toList = [.tmp 0] := by kernel_rfl
theorem nt_84 : Try.f84.ntmps = 36 := by kernel_rfl
theorem rs_84 : Try.f84.results.toList = [.tmp 2, .tmp 3] := by kernel_rfl
theorem nt_9 : Try.f9.ntmps = 68 := by kernel_rfl
theorem rs_9 : Try.f9.results.toList = [.tmp 6] := by kernel_rfl
theorem nt_10 : Try.f10.ntmps = 29 := by kernel_rfl
theorem rs_10 : Try.f10.results.toList = [.tmp 4] := by kernel_rfl
theorem nt_11 : Try.f11.ntmps = 30 := by kernel_rfl
theorem rs_11 : Try.f11.results.toList = [.tmp 8] := by kernel_rfl
theorem nt_12 : Try.f12.ntmps = 53 := by kernel_rfl
theorem rs_12 : Try.f12.results.toList = [.tmp 6] := by kernel_rfl
theorem nt_43 : Try.f43.ntmps = 40 := by kernel_rfl
theorem rs_43 : Try.f43.results.toList = [.tmp 4] := by kernel_rfl
theorem nt_50 : Try.f50.ntmps = 4 := by kernel_rfl
theorem rs_50 : Try.f50.results.toList = [.tmp 2] := by kernel_rfl
theorem nt_51 : Try.f51.ntmps = 16 := by kernel_rfl
theorem rs_51 : Try.f51.results.toList = [.tmp 0] := by kernel_rfl
theorem nt_91 : Try.f91.ntmps = 7 := by kernel_rfl
theorem rs_91 : Try.f91.results.toList = [.tmp 2] := by kernel_rfl
theorem nt_46 : Try.f46.ntmps = 32 := by kernel_rfl
theorem rs_46 : Try.f46.results.toList = [.tmp 4] := by kernel_rfl
theorem nt_94 : Try.f94.ntmps = 21 := by kernel_rfl
theorem rs_94 : Try.f94.results.toList = [.tmp 2] := by kernel_rfl
theorem nt_47 : Try.f47.ntmps = 6 := by kernel_rfl
theorem rs_47 : Try.f47.results.toList = [.tmp 2] := by kernel_rfl
theorem nt_44 : Try.f44.ntmps = 12 := by kernel_rfl
theorem rs_44 : Try.f44.results.toList = [.tmp 4, .tmp 5] := by kernel_rfl
theorem nt_52 : Try.f52.ntmps = 21 := by kernel_rfl
theorem rs_52 : Try.f52.results.toList = [.tmp 8] := by kernel_rfl
theorem nt_82 : Try.f82.ntmps = 40 := by kernel_rfl
theorem rs_82 : Try.f82.results.toList = [] := by kernel_rfl
theorem nt_86 : Try.f86.ntmps = 7 := by kernel_rfl
theorem rs_86 : Try.f86.results.toList = [.tmp 2] := by kernel_rfl
theorem nt_87 : Try.f87.ntmps = 37 := by kernel_rfl
theorem rs_87 : Try.f87.results.toList = [.tmp 4] := by kernel_rfl
theorem nt_88 : Try.f88.ntmps = 34 := by kernel_rfl
theorem rs_88 : Try.f88.results.toList = [.tmp 4] := by kernel_rfl
theorem nt_89 : Try.f89.ntmps = 16 := by kernel_rfl
theorem rs_89 : Try.f89.results.toList = [.tmp 2] := by kernel_rfl
theorem nt_90 : Try.f90.ntmps = 11 := by kernel_rfl
theorem rs_90 : Try.f90.results.toList = [.tmp 2] := by kernel_rfl
theorem nt_124 : Try.f124.ntmps = 18 := by kernel_rfl
theorem rs_124 : Try.f124.results.toList = [.tmp 2] := by kernel_rfl
theorem nt_126 : Try.f126.ntmps = 32 := by kernel_rfl
theorem rs_126 : Try.f126.results.toList = [.tmp 4] := by kernel_rfl
theorem nt_127 : Try.f127.ntmps = 11 := by kernel_rfl
theorem rs_127 : Try.f127.results.toList = [] := by kernel_rfl
theorem nt_125 : Try.f125.ntmps = 21 := by kernel_rfl
theorem rs_125 : Try.f125.results.toList = [.tmp 2] := by kernel_rfl
theorem nt_40 : Try.f40.ntmps = 62 := by kernel_rfl
theorem rs_40 : Try.f40.results.toList = [.tmp 2] := by kernel_rfl
theorem nt_85 : Try.f85.ntmps = 48 := by kernel_rfl
theorem rs_85 : Try.f85.results.toList = [.tmp 6] := by kernel_rfl
theorem nt_120 : Try.f120.ntmps = 4 := by kernel_rfl
theorem rs_120 : Try.f120.results.toList = [.tmp 2] := by kernel_rfl
theorem nt_149 : Try.f149.ntmps = 21 := by kernel_rfl
theorem rs_149 : Try.f149.results.toList = [] := by kernel_rfl
theorem nt_80 : Try.f80.ntmps = 26 := by kernel_rfl
theorem rs_80 : Try.f80.results.toList = [.tmp 2] := by kernel_rfl
theorem nt_39 : Try.f39.ntmps = 55 := by kernel_rfl
theorem rs_39 : Try.f39.results.toList = [.tmp 2, .tmp 3] := by kernel_rfl
theorem nt_41 : Try.f41.ntmps = 49 := by kernel_rfl
theorem rs_41 : Try.f41.results.toList = [.cell 2 63, .tmp 3] := by kernel_rfl
theorem nt_38 : Try.f38.ntmps = 18 := by kernel_rfl
theorem rs_38 : Try.f38.results.toList = [.tmp 0] := by kernel_rfl
theorem nt_42 : Try.f42.ntmps = 52 := by kernel_rfl
theorem rs_42 : Try.f42.results.toList = [.tmp 4] := by kernel_rfl
theorem nt_8 : Try.f8.ntmps = 76 := by kernel_rfl
theorem rs_8 : Try.f8.results.toList = [.tmp 4] := by kernel_rfl
theorem mixed : Try.prog.follows .mixedOrders = true := by kernel_rfl
end Go.Proofs.Ytjdokoldiemobaa.AM
