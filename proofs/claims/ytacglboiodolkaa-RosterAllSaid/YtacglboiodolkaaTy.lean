/-
  The types' facts, as a program wrote them.
-/
import Derived.Test.YtacglboiodolkaaAmD
import Derived.Test.YtacglboiodolkaaProg
import Derived.KernelRfl
set_option linter.defProp false
namespace Go.Proofs.Ytacglboiodolkaa.AM
open Go

theorem und_3 : (Program.underlying Try.prog 3).isSome = true := by kernel_rfl
theorem agg_3 : tyAgg Try.prog 3 = some false := by kernel_rfl
theorem sz_3 : tySize Try.prog 3 = some 1 := by kernel_rfl
theorem by_3 : tyBytes Try.prog 3 = some 8 := by kernel_rfl
theorem zero_3 : tyZero Try.prog 3 = some [.c (.int .i64 0)] := by kernel_rfl
theorem elem_3 : tyElem Try.prog 3 = none := by kernel_rfl
theorem arr_3 : tyArr Try.prog 3 = none := by kernel_rfl
theorem int_3 : tyInt Try.prog 3 = some .i64 := by kernel_rfl
theorem str_3 : tyStr Try.prog 3 = false := by kernel_rfl
theorem bool_3 : tyBool Try.prog 3 = false := by kernel_rfl
theorem ptr_3 : tyPtr Try.prog 3 = false := by kernel_rfl
theorem map_3 : tyMap Try.prog 3 = none := by kernel_rfl
theorem pl_3 : tyPlaces Try.prog 3 = none := by kernel_rfl
def ty_3 := And.intro und_3 <| And.intro agg_3 <| And.intro sz_3 <| And.intro by_3 <| And.intro zero_3 <| And.intro elem_3 <| And.intro arr_3 <| And.intro int_3 <| And.intro str_3 <| And.intro bool_3 <| And.intro ptr_3 <| And.intro map_3 <| pl_3
theorem und_4 : (Program.underlying Try.prog 4).isSome = true := by kernel_rfl
theorem agg_4 : tyAgg Try.prog 4 = some false := by kernel_rfl
theorem sz_4 : tySize Try.prog 4 = some 1 := by kernel_rfl
theorem by_4 : tyBytes Try.prog 4 = some 1 := by kernel_rfl
theorem zero_4 : tyZero Try.prog 4 = some [.c (.bool false)] := by kernel_rfl
theorem elem_4 : tyElem Try.prog 4 = none := by kernel_rfl
theorem arr_4 : tyArr Try.prog 4 = none := by kernel_rfl
theorem int_4 : tyInt Try.prog 4 = none := by kernel_rfl
theorem str_4 : tyStr Try.prog 4 = false := by kernel_rfl
theorem bool_4 : tyBool Try.prog 4 = true := by kernel_rfl
theorem ptr_4 : tyPtr Try.prog 4 = false := by kernel_rfl
theorem map_4 : tyMap Try.prog 4 = none := by kernel_rfl
theorem pl_4 : tyPlaces Try.prog 4 = none := by kernel_rfl
def ty_4 := And.intro und_4 <| And.intro agg_4 <| And.intro sz_4 <| And.intro by_4 <| And.intro zero_4 <| And.intro elem_4 <| And.intro arr_4 <| And.intro int_4 <| And.intro str_4 <| And.intro bool_4 <| And.intro ptr_4 <| And.intro map_4 <| pl_4
theorem und_5 : (Program.underlying Try.prog 5).isSome = true := by kernel_rfl
theorem agg_5 : tyAgg Try.prog 5 = some false := by kernel_rfl
theorem sz_5 : tySize Try.prog 5 = some 1 := by kernel_rfl
theorem by_5 : tyBytes Try.prog 5 = some 1 := by kernel_rfl
theorem zero_5 : tyZero Try.prog 5 = some [.c (.int .u8 0)] := by kernel_rfl
theorem elem_5 : tyElem Try.prog 5 = none := by kernel_rfl
theorem arr_5 : tyArr Try.prog 5 = none := by kernel_rfl
theorem int_5 : tyInt Try.prog 5 = some .u8 := by kernel_rfl
theorem str_5 : tyStr Try.prog 5 = false := by kernel_rfl
theorem bool_5 : tyBool Try.prog 5 = false := by kernel_rfl
theorem ptr_5 : tyPtr Try.prog 5 = false := by kernel_rfl
theorem map_5 : tyMap Try.prog 5 = none := by kernel_rfl
theorem pl_5 : tyPlaces Try.prog 5 = none := by kernel_rfl
def ty_5 := And.intro und_5 <| And.intro agg_5 <| And.intro sz_5 <| And.intro by_5 <| And.intro zero_5 <| And.intro elem_5 <| And.intro arr_5 <| And.intro int_5 <| And.intro str_5 <| And.intro bool_5 <| And.intro ptr_5 <| And.intro map_5 <| pl_5
theorem und_9 : (Program.underlying Try.prog 9).isSome = true := by kernel_rfl
theorem agg_9 : tyAgg Try.prog 9 = some false := by kernel_rfl
theorem sz_9 : tySize Try.prog 9 = some 1 := by kernel_rfl
theorem by_9 : tyBytes Try.prog 9 = some 16 := by kernel_rfl
theorem zero_9 : tyZero Try.prog 9 = some [.c (.str [])] := by kernel_rfl
theorem elem_9 : tyElem Try.prog 9 = none := by kernel_rfl
theorem arr_9 : tyArr Try.prog 9 = none := by kernel_rfl
theorem int_9 : tyInt Try.prog 9 = none := by kernel_rfl
theorem str_9 : tyStr Try.prog 9 = true := by kernel_rfl
theorem bool_9 : tyBool Try.prog 9 = false := by kernel_rfl
theorem ptr_9 : tyPtr Try.prog 9 = false := by kernel_rfl
theorem map_9 : tyMap Try.prog 9 = none := by kernel_rfl
theorem pl_9 : tyPlaces Try.prog 9 = none := by kernel_rfl
def ty_9 := And.intro und_9 <| And.intro agg_9 <| And.intro sz_9 <| And.intro by_9 <| And.intro zero_9 <| And.intro elem_9 <| And.intro arr_9 <| And.intro int_9 <| And.intro str_9 <| And.intro bool_9 <| And.intro ptr_9 <| And.intro map_9 <| pl_9
theorem und_23 : (Program.underlying Try.prog 23).isSome = true := by kernel_rfl
theorem agg_23 : tyAgg Try.prog 23 = some false := by kernel_rfl
theorem sz_23 : tySize Try.prog 23 = some 1 := by kernel_rfl
theorem by_23 : tyBytes Try.prog 23 = some 24 := by kernel_rfl
theorem zero_23 : tyZero Try.prog 23 = some [.nilsl] := by kernel_rfl
theorem elem_23 : tyElem Try.prog 23 = some 29 := by kernel_rfl
theorem arr_23 : tyArr Try.prog 23 = none := by kernel_rfl
theorem int_23 : tyInt Try.prog 23 = none := by kernel_rfl
theorem str_23 : tyStr Try.prog 23 = false := by kernel_rfl
theorem bool_23 : tyBool Try.prog 23 = false := by kernel_rfl
theorem ptr_23 : tyPtr Try.prog 23 = false := by kernel_rfl
theorem map_23 : tyMap Try.prog 23 = none := by kernel_rfl
theorem pl_23 : tyPlaces Try.prog 23 = none := by kernel_rfl
def ty_23 := And.intro und_23 <| And.intro agg_23 <| And.intro sz_23 <| And.intro by_23 <| And.intro zero_23 <| And.intro elem_23 <| And.intro arr_23 <| And.intro int_23 <| And.intro str_23 <| And.intro bool_23 <| And.intro ptr_23 <| And.intro map_23 <| pl_23
theorem und_25 : (Program.underlying Try.prog 25).isSome = true := by kernel_rfl
theorem agg_25 : tyAgg Try.prog 25 = some false := by kernel_rfl
theorem sz_25 : tySize Try.prog 25 = some 1 := by kernel_rfl
theorem by_25 : tyBytes Try.prog 25 = some 8 := by kernel_rfl
theorem zero_25 : tyZero Try.prog 25 = some [.c (.int .i64 0)] := by kernel_rfl
theorem elem_25 : tyElem Try.prog 25 = none := by kernel_rfl
theorem arr_25 : tyArr Try.prog 25 = none := by kernel_rfl
theorem int_25 : tyInt Try.prog 25 = some .i64 := by kernel_rfl
theorem str_25 : tyStr Try.prog 25 = false := by kernel_rfl
theorem bool_25 : tyBool Try.prog 25 = false := by kernel_rfl
theorem ptr_25 : tyPtr Try.prog 25 = false := by kernel_rfl
theorem map_25 : tyMap Try.prog 25 = none := by kernel_rfl
theorem pl_25 : tyPlaces Try.prog 25 = none := by kernel_rfl
def ty_25 := And.intro und_25 <| And.intro agg_25 <| And.intro sz_25 <| And.intro by_25 <| And.intro zero_25 <| And.intro elem_25 <| And.intro arr_25 <| And.intro int_25 <| And.intro str_25 <| And.intro bool_25 <| And.intro ptr_25 <| And.intro map_25 <| pl_25
theorem und_27 : (Program.underlying Try.prog 27).isSome = true := by kernel_rfl
theorem agg_27 : tyAgg Try.prog 27 = some false := by kernel_rfl
theorem sz_27 : tySize Try.prog 27 = some 1 := by kernel_rfl
theorem by_27 : tyBytes Try.prog 27 = some 24 := by kernel_rfl
theorem zero_27 : tyZero Try.prog 27 = some [.nilsl] := by kernel_rfl
theorem elem_27 : tyElem Try.prog 27 = some 32 := by kernel_rfl
theorem arr_27 : tyArr Try.prog 27 = none := by kernel_rfl
theorem int_27 : tyInt Try.prog 27 = none := by kernel_rfl
theorem str_27 : tyStr Try.prog 27 = false := by kernel_rfl
theorem bool_27 : tyBool Try.prog 27 = false := by kernel_rfl
theorem ptr_27 : tyPtr Try.prog 27 = false := by kernel_rfl
theorem map_27 : tyMap Try.prog 27 = none := by kernel_rfl
theorem pl_27 : tyPlaces Try.prog 27 = none := by kernel_rfl
def ty_27 := And.intro und_27 <| And.intro agg_27 <| And.intro sz_27 <| And.intro by_27 <| And.intro zero_27 <| And.intro elem_27 <| And.intro arr_27 <| And.intro int_27 <| And.intro str_27 <| And.intro bool_27 <| And.intro ptr_27 <| And.intro map_27 <| pl_27
theorem und_29 : (Program.underlying Try.prog 29).isSome = true := by kernel_rfl
theorem agg_29 : tyAgg Try.prog 29 = some true := by kernel_rfl
theorem sz_29 : tySize Try.prog 29 = some 4 := by kernel_rfl
theorem by_29 : tyBytes Try.prog 29 = some 48 := by kernel_rfl
theorem zero_29 : tyZero Try.prog 29 = some [.c (.int .i64 0), .c (.int .i64 0), .c (.int .i64 0), .nilsl] := by kernel_rfl
theorem elem_29 : tyElem Try.prog 29 = none := by kernel_rfl
theorem arr_29 : tyArr Try.prog 29 = none := by kernel_rfl
theorem int_29 : tyInt Try.prog 29 = none := by kernel_rfl
theorem str_29 : tyStr Try.prog 29 = false := by kernel_rfl
theorem bool_29 : tyBool Try.prog 29 = false := by kernel_rfl
theorem ptr_29 : tyPtr Try.prog 29 = false := by kernel_rfl
theorem map_29 : tyMap Try.prog 29 = none := by kernel_rfl
theorem fd_29_0 : tyField Try.prog 29 0 = some (0, 3, 1) := by kernel_rfl
theorem fd_29_1 : tyField Try.prog 29 1 = some (1, 3, 1) := by kernel_rfl
theorem fd_29_2 : tyField Try.prog 29 2 = some (2, 3, 1) := by kernel_rfl
theorem fd_29_3 : tyField Try.prog 29 3 = some (3, 27, 1) := by kernel_rfl
theorem pl_29 : tyPlaces Try.prog 29 = some [(0, 1), (1, 1), (2, 1), (3, 1)] := by kernel_rfl
def ty_29 := And.intro und_29 <| And.intro agg_29 <| And.intro sz_29 <| And.intro by_29 <| And.intro zero_29 <| And.intro elem_29 <| And.intro arr_29 <| And.intro int_29 <| And.intro str_29 <| And.intro bool_29 <| And.intro ptr_29 <| And.intro map_29 <| And.intro fd_29_0 <| And.intro fd_29_1 <| And.intro fd_29_2 <| And.intro fd_29_3 <| pl_29
theorem und_32 : (Program.underlying Try.prog 32).isSome = true := by kernel_rfl
theorem agg_32 : tyAgg Try.prog 32 = some true := by kernel_rfl
theorem sz_32 : tySize Try.prog 32 = some 2 := by kernel_rfl
theorem by_32 : tyBytes Try.prog 32 = some 16 := by kernel_rfl
theorem zero_32 : tyZero Try.prog 32 = some [.c (.int .i64 0), .c (.int .i64 0)] := by kernel_rfl
theorem elem_32 : tyElem Try.prog 32 = none := by kernel_rfl
theorem arr_32 : tyArr Try.prog 32 = none := by kernel_rfl
theorem int_32 : tyInt Try.prog 32 = none := by kernel_rfl
theorem str_32 : tyStr Try.prog 32 = false := by kernel_rfl
theorem bool_32 : tyBool Try.prog 32 = false := by kernel_rfl
theorem ptr_32 : tyPtr Try.prog 32 = false := by kernel_rfl
theorem map_32 : tyMap Try.prog 32 = none := by kernel_rfl
theorem fd_32_0 : tyField Try.prog 32 0 = some (0, 3, 1) := by kernel_rfl
theorem fd_32_1 : tyField Try.prog 32 1 = some (1, 3, 1) := by kernel_rfl
theorem pl_32 : tyPlaces Try.prog 32 = some [(0, 1), (1, 1)] := by kernel_rfl
def ty_32 := And.intro und_32 <| And.intro agg_32 <| And.intro sz_32 <| And.intro by_32 <| And.intro zero_32 <| And.intro elem_32 <| And.intro arr_32 <| And.intro int_32 <| And.intro str_32 <| And.intro bool_32 <| And.intro ptr_32 <| And.intro map_32 <| And.intro fd_32_0 <| And.intro fd_32_1 <| pl_32
theorem und_39 : (Program.underlying Try.prog 39).isSome = true := by kernel_rfl
theorem agg_39 : tyAgg Try.prog 39 = some false := by kernel_rfl
theorem sz_39 : tySize Try.prog 39 = some 1 := by kernel_rfl
theorem by_39 : tyBytes Try.prog 39 = some 24 := by kernel_rfl
theorem zero_39 : tyZero Try.prog 39 = some [.nilsl] := by kernel_rfl
theorem elem_39 : tyElem Try.prog 39 = some 46 := by kernel_rfl
theorem arr_39 : tyArr Try.prog 39 = none := by kernel_rfl
theorem int_39 : tyInt Try.prog 39 = none := by kernel_rfl
theorem str_39 : tyStr Try.prog 39 = false := by kernel_rfl
theorem bool_39 : tyBool Try.prog 39 = false := by kernel_rfl
theorem ptr_39 : tyPtr Try.prog 39 = false := by kernel_rfl
theorem map_39 : tyMap Try.prog 39 = none := by kernel_rfl
theorem pl_39 : tyPlaces Try.prog 39 = none := by kernel_rfl
def ty_39 := And.intro und_39 <| And.intro agg_39 <| And.intro sz_39 <| And.intro by_39 <| And.intro zero_39 <| And.intro elem_39 <| And.intro arr_39 <| And.intro int_39 <| And.intro str_39 <| And.intro bool_39 <| And.intro ptr_39 <| And.intro map_39 <| pl_39
theorem und_40 : (Program.underlying Try.prog 40).isSome = true := by kernel_rfl
theorem agg_40 : tyAgg Try.prog 40 = some false := by kernel_rfl
theorem sz_40 : tySize Try.prog 40 = some 1 := by kernel_rfl
theorem by_40 : tyBytes Try.prog 40 = some 8 := by kernel_rfl
theorem zero_40 : tyZero Try.prog 40 = some [.nilptr] := by kernel_rfl
theorem elem_40 : tyElem Try.prog 40 = none := by kernel_rfl
theorem arr_40 : tyArr Try.prog 40 = none := by kernel_rfl
theorem int_40 : tyInt Try.prog 40 = none := by kernel_rfl
theorem str_40 : tyStr Try.prog 40 = false := by kernel_rfl
theorem bool_40 : tyBool Try.prog 40 = false := by kernel_rfl
theorem ptr_40 : tyPtr Try.prog 40 = true := by kernel_rfl
theorem map_40 : tyMap Try.prog 40 = none := by kernel_rfl
theorem pl_40 : tyPlaces Try.prog 40 = none := by kernel_rfl
def ty_40 := And.intro und_40 <| And.intro agg_40 <| And.intro sz_40 <| And.intro by_40 <| And.intro zero_40 <| And.intro elem_40 <| And.intro arr_40 <| And.intro int_40 <| And.intro str_40 <| And.intro bool_40 <| And.intro ptr_40 <| And.intro map_40 <| pl_40
theorem und_42 : (Program.underlying Try.prog 42).isSome = true := by kernel_rfl
theorem agg_42 : tyAgg Try.prog 42 = some false := by kernel_rfl
theorem sz_42 : tySize Try.prog 42 = some 1 := by kernel_rfl
theorem by_42 : tyBytes Try.prog 42 = some 24 := by kernel_rfl
theorem zero_42 : tyZero Try.prog 42 = some [.nilsl] := by kernel_rfl
theorem elem_42 : tyElem Try.prog 42 = some 5 := by kernel_rfl
theorem arr_42 : tyArr Try.prog 42 = none := by kernel_rfl
theorem int_42 : tyInt Try.prog 42 = none := by kernel_rfl
theorem str_42 : tyStr Try.prog 42 = false := by kernel_rfl
theorem bool_42 : tyBool Try.prog 42 = false := by kernel_rfl
theorem ptr_42 : tyPtr Try.prog 42 = false := by kernel_rfl
theorem map_42 : tyMap Try.prog 42 = none := by kernel_rfl
theorem pl_42 : tyPlaces Try.prog 42 = none := by kernel_rfl
def ty_42 := And.intro und_42 <| And.intro agg_42 <| And.intro sz_42 <| And.intro by_42 <| And.intro zero_42 <| And.intro elem_42 <| And.intro arr_42 <| And.intro int_42 <| And.intro str_42 <| And.intro bool_42 <| And.intro ptr_42 <| And.intro map_42 <| pl_42
theorem und_44 : (Program.underlying Try.prog 44).isSome = true := by kernel_rfl
theorem agg_44 : tyAgg Try.prog 44 = some true := by kernel_rfl
theorem sz_44 : tySize Try.prog 44 = some 2 := by kernel_rfl
theorem by_44 : tyBytes Try.prog 44 = some 32 := by kernel_rfl
theorem zero_44 : tyZero Try.prog 44 = some [.nilsl, .c (.int .i64 0)] := by kernel_rfl
theorem elem_44 : tyElem Try.prog 44 = none := by kernel_rfl
theorem arr_44 : tyArr Try.prog 44 = none := by kernel_rfl
theorem int_44 : tyInt Try.prog 44 = none := by kernel_rfl
theorem str_44 : tyStr Try.prog 44 = false := by kernel_rfl
theorem bool_44 : tyBool Try.prog 44 = false := by kernel_rfl
theorem ptr_44 : tyPtr Try.prog 44 = false := by kernel_rfl
theorem map_44 : tyMap Try.prog 44 = none := by kernel_rfl
theorem fd_44_0 : tyField Try.prog 44 0 = some (0, 42, 1) := by kernel_rfl
theorem fd_44_1 : tyField Try.prog 44 1 = some (1, 3, 1) := by kernel_rfl
theorem pl_44 : tyPlaces Try.prog 44 = some [(0, 1), (1, 1)] := by kernel_rfl
def ty_44 := And.intro und_44 <| And.intro agg_44 <| And.intro sz_44 <| And.intro by_44 <| And.intro zero_44 <| And.intro elem_44 <| And.intro arr_44 <| And.intro int_44 <| And.intro str_44 <| And.intro bool_44 <| And.intro ptr_44 <| And.intro map_44 <| And.intro fd_44_0 <| And.intro fd_44_1 <| pl_44
theorem und_46 : (Program.underlying Try.prog 46).isSome = true := by kernel_rfl
theorem agg_46 : tyAgg Try.prog 46 = some true := by kernel_rfl
theorem sz_46 : tySize Try.prog 46 = some 3 := by kernel_rfl
theorem by_46 : tyBytes Try.prog 46 = some 32 := by kernel_rfl
theorem zero_46 : tyZero Try.prog 46 = some [.c (.int .i64 0), .c (.int .i64 0), .c (.str [])] := by kernel_rfl
theorem elem_46 : tyElem Try.prog 46 = none := by kernel_rfl
theorem arr_46 : tyArr Try.prog 46 = none := by kernel_rfl
theorem int_46 : tyInt Try.prog 46 = none := by kernel_rfl
theorem str_46 : tyStr Try.prog 46 = false := by kernel_rfl
theorem bool_46 : tyBool Try.prog 46 = false := by kernel_rfl
theorem ptr_46 : tyPtr Try.prog 46 = false := by kernel_rfl
theorem map_46 : tyMap Try.prog 46 = none := by kernel_rfl
theorem fd_46_0 : tyField Try.prog 46 0 = some (0, 3, 1) := by kernel_rfl
theorem fd_46_1 : tyField Try.prog 46 1 = some (1, 3, 1) := by kernel_rfl
theorem fd_46_2 : tyField Try.prog 46 2 = some (2, 9, 1) := by kernel_rfl
theorem pl_46 : tyPlaces Try.prog 46 = some [(0, 1), (1, 1), (2, 1)] := by kernel_rfl
def ty_46 := And.intro und_46 <| And.intro agg_46 <| And.intro sz_46 <| And.intro by_46 <| And.intro zero_46 <| And.intro elem_46 <| And.intro arr_46 <| And.intro int_46 <| And.intro str_46 <| And.intro bool_46 <| And.intro ptr_46 <| And.intro map_46 <| And.intro fd_46_0 <| And.intro fd_46_1 <| And.intro fd_46_2 <| pl_46
theorem und_57 : (Program.underlying Try.prog 57).isSome = true := by kernel_rfl
theorem agg_57 : tyAgg Try.prog 57 = some false := by kernel_rfl
theorem sz_57 : tySize Try.prog 57 = some 1 := by kernel_rfl
theorem by_57 : tyBytes Try.prog 57 = some 8 := by kernel_rfl
theorem zero_57 : tyZero Try.prog 57 = some [.nilptr] := by kernel_rfl
theorem elem_57 : tyElem Try.prog 57 = none := by kernel_rfl
theorem arr_57 : tyArr Try.prog 57 = none := by kernel_rfl
theorem int_57 : tyInt Try.prog 57 = none := by kernel_rfl
theorem str_57 : tyStr Try.prog 57 = false := by kernel_rfl
theorem bool_57 : tyBool Try.prog 57 = false := by kernel_rfl
theorem ptr_57 : tyPtr Try.prog 57 = true := by kernel_rfl
theorem map_57 : tyMap Try.prog 57 = none := by kernel_rfl
theorem pl_57 : tyPlaces Try.prog 57 = none := by kernel_rfl
def ty_57 := And.intro und_57 <| And.intro agg_57 <| And.intro sz_57 <| And.intro by_57 <| And.intro zero_57 <| And.intro elem_57 <| And.intro arr_57 <| And.intro int_57 <| And.intro str_57 <| And.intro bool_57 <| And.intro ptr_57 <| And.intro map_57 <| pl_57
theorem und_59 : (Program.underlying Try.prog 59).isSome = true := by kernel_rfl
theorem agg_59 : tyAgg Try.prog 59 = some true := by kernel_rfl
theorem sz_59 : tySize Try.prog 59 = some 2 := by kernel_rfl
theorem by_59 : tyBytes Try.prog 59 = some 32 := by kernel_rfl
theorem zero_59 : tyZero Try.prog 59 = some [.nilsl, .c (.int .i64 0)] := by kernel_rfl
theorem elem_59 : tyElem Try.prog 59 = none := by kernel_rfl
theorem arr_59 : tyArr Try.prog 59 = none := by kernel_rfl
theorem int_59 : tyInt Try.prog 59 = none := by kernel_rfl
theorem str_59 : tyStr Try.prog 59 = false := by kernel_rfl
theorem bool_59 : tyBool Try.prog 59 = false := by kernel_rfl
theorem ptr_59 : tyPtr Try.prog 59 = false := by kernel_rfl
theorem map_59 : tyMap Try.prog 59 = none := by kernel_rfl
theorem fd_59_0 : tyField Try.prog 59 0 = some (0, 42, 1) := by kernel_rfl
theorem fd_59_1 : tyField Try.prog 59 1 = some (1, 3, 1) := by kernel_rfl
theorem pl_59 : tyPlaces Try.prog 59 = some [(0, 1), (1, 1)] := by kernel_rfl
def ty_59 := And.intro und_59 <| And.intro agg_59 <| And.intro sz_59 <| And.intro by_59 <| And.intro zero_59 <| And.intro elem_59 <| And.intro arr_59 <| And.intro int_59 <| And.intro str_59 <| And.intro bool_59 <| And.intro ptr_59 <| And.intro map_59 <| And.intro fd_59_0 <| And.intro fd_59_1 <| pl_59
theorem und_70 : (Program.underlying Try.prog 70).isSome = true := by kernel_rfl
theorem agg_70 : tyAgg Try.prog 70 = some true := by kernel_rfl
theorem sz_70 : tySize Try.prog 70 = some 3 := by kernel_rfl
theorem by_70 : tyBytes Try.prog 70 = some 40 := by kernel_rfl
theorem zero_70 : tyZero Try.prog 70 = some [.nilsl, .c (.int .i64 0), .c (.bool false)] := by kernel_rfl
theorem elem_70 : tyElem Try.prog 70 = none := by kernel_rfl
theorem arr_70 : tyArr Try.prog 70 = none := by kernel_rfl
theorem int_70 : tyInt Try.prog 70 = none := by kernel_rfl
theorem str_70 : tyStr Try.prog 70 = false := by kernel_rfl
theorem bool_70 : tyBool Try.prog 70 = false := by kernel_rfl
theorem ptr_70 : tyPtr Try.prog 70 = false := by kernel_rfl
theorem map_70 : tyMap Try.prog 70 = none := by kernel_rfl
theorem fd_70_0 : tyField Try.prog 70 0 = some (0, 42, 1) := by kernel_rfl
theorem fd_70_1 : tyField Try.prog 70 1 = some (1, 25, 1) := by kernel_rfl
theorem fd_70_2 : tyField Try.prog 70 2 = some (2, 4, 1) := by kernel_rfl
theorem pl_70 : tyPlaces Try.prog 70 = some [(0, 1), (1, 1), (2, 1)] := by kernel_rfl
def ty_70 := And.intro und_70 <| And.intro agg_70 <| And.intro sz_70 <| And.intro by_70 <| And.intro zero_70 <| And.intro elem_70 <| And.intro arr_70 <| And.intro int_70 <| And.intro str_70 <| And.intro bool_70 <| And.intro ptr_70 <| And.intro map_70 <| And.intro fd_70_0 <| And.intro fd_70_1 <| And.intro fd_70_2 <| pl_70
theorem und_71 : (Program.underlying Try.prog 71).isSome = true := by kernel_rfl
theorem agg_71 : tyAgg Try.prog 71 = some false := by kernel_rfl
theorem sz_71 : tySize Try.prog 71 = some 1 := by kernel_rfl
theorem by_71 : tyBytes Try.prog 71 = some 24 := by kernel_rfl
theorem zero_71 : tyZero Try.prog 71 = some [.nilsl] := by kernel_rfl
theorem elem_71 : tyElem Try.prog 71 = some 40 := by kernel_rfl
theorem arr_71 : tyArr Try.prog 71 = none := by kernel_rfl
theorem int_71 : tyInt Try.prog 71 = none := by kernel_rfl
theorem str_71 : tyStr Try.prog 71 = false := by kernel_rfl
theorem bool_71 : tyBool Try.prog 71 = false := by kernel_rfl
theorem ptr_71 : tyPtr Try.prog 71 = false := by kernel_rfl
theorem map_71 : tyMap Try.prog 71 = none := by kernel_rfl
theorem pl_71 : tyPlaces Try.prog 71 = none := by kernel_rfl
def ty_71 := And.intro und_71 <| And.intro agg_71 <| And.intro sz_71 <| And.intro by_71 <| And.intro zero_71 <| And.intro elem_71 <| And.intro arr_71 <| And.intro int_71 <| And.intro str_71 <| And.intro bool_71 <| And.intro ptr_71 <| And.intro map_71 <| pl_71
theorem und_72 : (Program.underlying Try.prog 72).isSome = true := by kernel_rfl
theorem agg_72 : tyAgg Try.prog 72 = some true := by kernel_rfl
theorem sz_72 : tySize Try.prog 72 = some 3 := by kernel_rfl
theorem by_72 : tyBytes Try.prog 72 = some 40 := by kernel_rfl
theorem zero_72 : tyZero Try.prog 72 = some [.nilsl, .c (.int .i64 0), .c (.bool false)] := by kernel_rfl
theorem elem_72 : tyElem Try.prog 72 = none := by kernel_rfl
theorem arr_72 : tyArr Try.prog 72 = none := by kernel_rfl
theorem int_72 : tyInt Try.prog 72 = none := by kernel_rfl
theorem str_72 : tyStr Try.prog 72 = false := by kernel_rfl
theorem bool_72 : tyBool Try.prog 72 = false := by kernel_rfl
theorem ptr_72 : tyPtr Try.prog 72 = false := by kernel_rfl
theorem map_72 : tyMap Try.prog 72 = none := by kernel_rfl
theorem fd_72_0 : tyField Try.prog 72 0 = some (0, 42, 1) := by kernel_rfl
theorem fd_72_1 : tyField Try.prog 72 1 = some (1, 25, 1) := by kernel_rfl
theorem fd_72_2 : tyField Try.prog 72 2 = some (2, 4, 1) := by kernel_rfl
theorem pl_72 : tyPlaces Try.prog 72 = some [(0, 1), (1, 1), (2, 1)] := by kernel_rfl
def ty_72 := And.intro und_72 <| And.intro agg_72 <| And.intro sz_72 <| And.intro by_72 <| And.intro zero_72 <| And.intro elem_72 <| And.intro arr_72 <| And.intro int_72 <| And.intro str_72 <| And.intro bool_72 <| And.intro ptr_72 <| And.intro map_72 <| And.intro fd_72_0 <| And.intro fd_72_1 <| And.intro fd_72_2 <| pl_72
theorem und_73 : (Program.underlying Try.prog 73).isSome = true := by kernel_rfl
theorem agg_73 : tyAgg Try.prog 73 = some false := by kernel_rfl
theorem sz_73 : tySize Try.prog 73 = some 1 := by kernel_rfl
theorem by_73 : tyBytes Try.prog 73 = some 24 := by kernel_rfl
theorem zero_73 : tyZero Try.prog 73 = some [.nilsl] := by kernel_rfl
theorem elem_73 : tyElem Try.prog 73 = some 57 := by kernel_rfl
theorem arr_73 : tyArr Try.prog 73 = none := by kernel_rfl
theorem int_73 : tyInt Try.prog 73 = none := by kernel_rfl
theorem str_73 : tyStr Try.prog 73 = false := by kernel_rfl
theorem bool_73 : tyBool Try.prog 73 = false := by kernel_rfl
theorem ptr_73 : tyPtr Try.prog 73 = false := by kernel_rfl
theorem map_73 : tyMap Try.prog 73 = none := by kernel_rfl
theorem pl_73 : tyPlaces Try.prog 73 = none := by kernel_rfl
def ty_73 := And.intro und_73 <| And.intro agg_73 <| And.intro sz_73 <| And.intro by_73 <| And.intro zero_73 <| And.intro elem_73 <| And.intro arr_73 <| And.intro int_73 <| And.intro str_73 <| And.intro bool_73 <| And.intro ptr_73 <| And.intro map_73 <| pl_73
theorem und_75 : (Program.underlying Try.prog 75).isSome = true := by kernel_rfl
theorem agg_75 : tyAgg Try.prog 75 = some false := by kernel_rfl
theorem sz_75 : tySize Try.prog 75 = some 1 := by kernel_rfl
theorem by_75 : tyBytes Try.prog 75 = some 24 := by kernel_rfl
theorem zero_75 : tyZero Try.prog 75 = some [.nilsl] := by kernel_rfl
theorem elem_75 : tyElem Try.prog 75 = some 9 := by kernel_rfl
theorem arr_75 : tyArr Try.prog 75 = none := by kernel_rfl
theorem int_75 : tyInt Try.prog 75 = none := by kernel_rfl
theorem str_75 : tyStr Try.prog 75 = false := by kernel_rfl
theorem bool_75 : tyBool Try.prog 75 = false := by kernel_rfl
theorem ptr_75 : tyPtr Try.prog 75 = false := by kernel_rfl
theorem map_75 : tyMap Try.prog 75 = none := by kernel_rfl
theorem pl_75 : tyPlaces Try.prog 75 = none := by kernel_rfl
def ty_75 := And.intro und_75 <| And.intro agg_75 <| And.intro sz_75 <| And.intro by_75 <| And.intro zero_75 <| And.intro elem_75 <| And.intro arr_75 <| And.intro int_75 <| And.intro str_75 <| And.intro bool_75 <| And.intro ptr_75 <| And.intro map_75 <| pl_75
theorem und_97 : (Program.underlying Try.prog 97).isSome = true := by kernel_rfl
theorem agg_97 : tyAgg Try.prog 97 = some false := by kernel_rfl
theorem sz_97 : tySize Try.prog 97 = some 1 := by kernel_rfl
theorem by_97 : tyBytes Try.prog 97 = some 8 := by kernel_rfl
theorem zero_97 : tyZero Try.prog 97 = some [.c (.int .u64 0)] := by kernel_rfl
theorem elem_97 : tyElem Try.prog 97 = none := by kernel_rfl
theorem arr_97 : tyArr Try.prog 97 = none := by kernel_rfl
theorem int_97 : tyInt Try.prog 97 = some .u64 := by kernel_rfl
theorem str_97 : tyStr Try.prog 97 = false := by kernel_rfl
theorem bool_97 : tyBool Try.prog 97 = false := by kernel_rfl
theorem ptr_97 : tyPtr Try.prog 97 = false := by kernel_rfl
theorem map_97 : tyMap Try.prog 97 = none := by kernel_rfl
theorem pl_97 : tyPlaces Try.prog 97 = none := by kernel_rfl
def ty_97 := And.intro und_97 <| And.intro agg_97 <| And.intro sz_97 <| And.intro by_97 <| And.intro zero_97 <| And.intro elem_97 <| And.intro arr_97 <| And.intro int_97 <| And.intro str_97 <| And.intro bool_97 <| And.intro ptr_97 <| And.intro map_97 <| pl_97
theorem und_110 : (Program.underlying Try.prog 110).isSome = true := by kernel_rfl
theorem agg_110 : tyAgg Try.prog 110 = some false := by kernel_rfl
theorem sz_110 : tySize Try.prog 110 = some 1 := by kernel_rfl
theorem by_110 : tyBytes Try.prog 110 = some 8 := by kernel_rfl
theorem zero_110 : tyZero Try.prog 110 = some [.c (.int .u64 0)] := by kernel_rfl
theorem elem_110 : tyElem Try.prog 110 = none := by kernel_rfl
theorem arr_110 : tyArr Try.prog 110 = none := by kernel_rfl
theorem int_110 : tyInt Try.prog 110 = some .u64 := by kernel_rfl
theorem str_110 : tyStr Try.prog 110 = false := by kernel_rfl
theorem bool_110 : tyBool Try.prog 110 = false := by kernel_rfl
theorem ptr_110 : tyPtr Try.prog 110 = false := by kernel_rfl
theorem map_110 : tyMap Try.prog 110 = none := by kernel_rfl
theorem pl_110 : tyPlaces Try.prog 110 = none := by kernel_rfl
def ty_110 := And.intro und_110 <| And.intro agg_110 <| And.intro sz_110 <| And.intro by_110 <| And.intro zero_110 <| And.intro elem_110 <| And.intro arr_110 <| And.intro int_110 <| And.intro str_110 <| And.intro bool_110 <| And.intro ptr_110 <| And.intro map_110 <| pl_110
theorem und_114 : (Program.underlying Try.prog 114).isSome = true := by kernel_rfl
theorem agg_114 : tyAgg Try.prog 114 = some false := by kernel_rfl
theorem sz_114 : tySize Try.prog 114 = some 1 := by kernel_rfl
theorem by_114 : tyBytes Try.prog 114 = some 24 := by kernel_rfl
theorem zero_114 : tyZero Try.prog 114 = some [.nilsl] := by kernel_rfl
theorem elem_114 : tyElem Try.prog 114 = some 42 := by kernel_rfl
theorem arr_114 : tyArr Try.prog 114 = none := by kernel_rfl
theorem int_114 : tyInt Try.prog 114 = none := by kernel_rfl
theorem str_114 : tyStr Try.prog 114 = false := by kernel_rfl
theorem bool_114 : tyBool Try.prog 114 = false := by kernel_rfl
theorem ptr_114 : tyPtr Try.prog 114 = false := by kernel_rfl
theorem map_114 : tyMap Try.prog 114 = none := by kernel_rfl
theorem pl_114 : tyPlaces Try.prog 114 = none := by kernel_rfl
def ty_114 := And.intro und_114 <| And.intro agg_114 <| And.intro sz_114 <| And.intro by_114 <| And.intro zero_114 <| And.intro elem_114 <| And.intro arr_114 <| And.intro int_114 <| And.intro str_114 <| And.intro bool_114 <| And.intro ptr_114 <| And.intro map_114 <| pl_114
theorem und_119 : (Program.underlying Try.prog 119).isSome = true := by kernel_rfl
theorem agg_119 : tyAgg Try.prog 119 = some false := by kernel_rfl
theorem sz_119 : tySize Try.prog 119 = some 1 := by kernel_rfl
theorem by_119 : tyBytes Try.prog 119 = some 4 := by kernel_rfl
theorem zero_119 : tyZero Try.prog 119 = some [.c (.int .u32 0)] := by kernel_rfl
theorem elem_119 : tyElem Try.prog 119 = none := by kernel_rfl
theorem arr_119 : tyArr Try.prog 119 = none := by kernel_rfl
theorem int_119 : tyInt Try.prog 119 = some .u32 := by kernel_rfl
theorem str_119 : tyStr Try.prog 119 = false := by kernel_rfl
theorem bool_119 : tyBool Try.prog 119 = false := by kernel_rfl
theorem ptr_119 : tyPtr Try.prog 119 = false := by kernel_rfl
theorem map_119 : tyMap Try.prog 119 = none := by kernel_rfl
theorem pl_119 : tyPlaces Try.prog 119 = none := by kernel_rfl
def ty_119 := And.intro und_119 <| And.intro agg_119 <| And.intro sz_119 <| And.intro by_119 <| And.intro zero_119 <| And.intro elem_119 <| And.intro arr_119 <| And.intro int_119 <| And.intro str_119 <| And.intro bool_119 <| And.intro ptr_119 <| And.intro map_119 <| pl_119
theorem und_120 : (Program.underlying Try.prog 120).isSome = true := by kernel_rfl
theorem agg_120 : tyAgg Try.prog 120 = some true := by kernel_rfl
theorem sz_120 : tySize Try.prog 120 = some 64 := by kernel_rfl
theorem by_120 : tyBytes Try.prog 120 = some 256 := by kernel_rfl
theorem zero_120 : tyZero Try.prog 120 = some (zrep 64 (.c (.int .u32 0))) := by kernel_rfl
theorem elem_120 : tyElem Try.prog 120 = none := by kernel_rfl
theorem arr_120 : tyArr Try.prog 120 = some (64, 119) := by kernel_rfl
theorem int_120 : tyInt Try.prog 120 = none := by kernel_rfl
theorem str_120 : tyStr Try.prog 120 = false := by kernel_rfl
theorem bool_120 : tyBool Try.prog 120 = false := by kernel_rfl
theorem ptr_120 : tyPtr Try.prog 120 = false := by kernel_rfl
theorem map_120 : tyMap Try.prog 120 = none := by kernel_rfl
theorem pl_120 : tyPlaces Try.prog 120 = none := by kernel_rfl
def ty_120 := And.intro und_120 <| And.intro agg_120 <| And.intro sz_120 <| And.intro by_120 <| And.intro zero_120 <| And.intro elem_120 <| And.intro arr_120 <| And.intro int_120 <| And.intro str_120 <| And.intro bool_120 <| And.intro ptr_120 <| And.intro map_120 <| pl_120
theorem und_122 : (Program.underlying Try.prog 122).isSome = true := by kernel_rfl
theorem agg_122 : tyAgg Try.prog 122 = some true := by kernel_rfl
theorem sz_122 : tySize Try.prog 122 = some 8 := by kernel_rfl
theorem by_122 : tyBytes Try.prog 122 = some 32 := by kernel_rfl
theorem zero_122 : tyZero Try.prog 122 = some [.c (.int .u32 0), .c (.int .u32 0), .c (.int .u32 0), .c (.int .u32 0), .c (.int .u32 0), .c (.int .u32 0), .c (.int .u32 0), .c (.int .u32 0)] := by kernel_rfl
theorem elem_122 : tyElem Try.prog 122 = none := by kernel_rfl
theorem arr_122 : tyArr Try.prog 122 = some (8, 119) := by kernel_rfl
theorem int_122 : tyInt Try.prog 122 = none := by kernel_rfl
theorem str_122 : tyStr Try.prog 122 = false := by kernel_rfl
theorem bool_122 : tyBool Try.prog 122 = false := by kernel_rfl
theorem ptr_122 : tyPtr Try.prog 122 = false := by kernel_rfl
theorem map_122 : tyMap Try.prog 122 = none := by kernel_rfl
theorem pl_122 : tyPlaces Try.prog 122 = none := by kernel_rfl
def ty_122 := And.intro und_122 <| And.intro agg_122 <| And.intro sz_122 <| And.intro by_122 <| And.intro zero_122 <| And.intro elem_122 <| And.intro arr_122 <| And.intro int_122 <| And.intro str_122 <| And.intro bool_122 <| And.intro ptr_122 <| And.intro map_122 <| pl_122
theorem und_124 : (Program.underlying Try.prog 124).isSome = true := by kernel_rfl
theorem agg_124 : tyAgg Try.prog 124 = some true := by kernel_rfl
theorem sz_124 : tySize Try.prog 124 = some 8 := by kernel_rfl
theorem by_124 : tyBytes Try.prog 124 = some 32 := by kernel_rfl
theorem zero_124 : tyZero Try.prog 124 = some [.c (.int .u32 0), .c (.int .u32 0), .c (.int .u32 0), .c (.int .u32 0), .c (.int .u32 0), .c (.int .u32 0), .c (.int .u32 0), .c (.int .u32 0)] := by kernel_rfl
theorem elem_124 : tyElem Try.prog 124 = none := by kernel_rfl
theorem arr_124 : tyArr Try.prog 124 = some (8, 119) := by kernel_rfl
theorem int_124 : tyInt Try.prog 124 = none := by kernel_rfl
theorem str_124 : tyStr Try.prog 124 = false := by kernel_rfl
theorem bool_124 : tyBool Try.prog 124 = false := by kernel_rfl
theorem ptr_124 : tyPtr Try.prog 124 = false := by kernel_rfl
theorem map_124 : tyMap Try.prog 124 = none := by kernel_rfl
theorem pl_124 : tyPlaces Try.prog 124 = none := by kernel_rfl
def ty_124 := And.intro und_124 <| And.intro agg_124 <| And.intro sz_124 <| And.intro by_124 <| And.intro zero_124 <| And.intro elem_124 <| And.intro arr_124 <| And.intro int_124 <| And.intro str_124 <| And.intro bool_124 <| And.intro ptr_124 <| And.intro map_124 <| pl_124
theorem und_127 : (Program.underlying Try.prog 127).isSome = true := by kernel_rfl
theorem agg_127 : tyAgg Try.prog 127 = some false := by kernel_rfl
theorem sz_127 : tySize Try.prog 127 = some 1 := by kernel_rfl
theorem by_127 : tyBytes Try.prog 127 = some 8 := by kernel_rfl
theorem zero_127 : tyZero Try.prog 127 = some [.nilptr] := by kernel_rfl
theorem elem_127 : tyElem Try.prog 127 = none := by kernel_rfl
theorem arr_127 : tyArr Try.prog 127 = none := by kernel_rfl
theorem int_127 : tyInt Try.prog 127 = none := by kernel_rfl
theorem str_127 : tyStr Try.prog 127 = false := by kernel_rfl
theorem bool_127 : tyBool Try.prog 127 = false := by kernel_rfl
theorem ptr_127 : tyPtr Try.prog 127 = true := by kernel_rfl
theorem map_127 : tyMap Try.prog 127 = none := by kernel_rfl
theorem pl_127 : tyPlaces Try.prog 127 = none := by kernel_rfl
def ty_127 := And.intro und_127 <| And.intro agg_127 <| And.intro sz_127 <| And.intro by_127 <| And.intro zero_127 <| And.intro elem_127 <| And.intro arr_127 <| And.intro int_127 <| And.intro str_127 <| And.intro bool_127 <| And.intro ptr_127 <| And.intro map_127 <| pl_127
theorem und_129 : (Program.underlying Try.prog 129).isSome = true := by kernel_rfl
theorem agg_129 : tyAgg Try.prog 129 = some false := by kernel_rfl
theorem sz_129 : tySize Try.prog 129 = some 1 := by kernel_rfl
theorem by_129 : tyBytes Try.prog 129 = some 24 := by kernel_rfl
theorem zero_129 : tyZero Try.prog 129 = some [.nilsl] := by kernel_rfl
theorem elem_129 : tyElem Try.prog 129 = some 119 := by kernel_rfl
theorem arr_129 : tyArr Try.prog 129 = none := by kernel_rfl
theorem int_129 : tyInt Try.prog 129 = none := by kernel_rfl
theorem str_129 : tyStr Try.prog 129 = false := by kernel_rfl
theorem bool_129 : tyBool Try.prog 129 = false := by kernel_rfl
theorem ptr_129 : tyPtr Try.prog 129 = false := by kernel_rfl
theorem map_129 : tyMap Try.prog 129 = none := by kernel_rfl
theorem pl_129 : tyPlaces Try.prog 129 = none := by kernel_rfl
def ty_129 := And.intro und_129 <| And.intro agg_129 <| And.intro sz_129 <| And.intro by_129 <| And.intro zero_129 <| And.intro elem_129 <| And.intro arr_129 <| And.intro int_129 <| And.intro str_129 <| And.intro bool_129 <| And.intro ptr_129 <| And.intro map_129 <| pl_129
theorem nt_21 : Try.f21.ntmps = 3 := by kernel_rfl
theorem rs_21 : Try.f21.results.toList = [.tmp 0] := by kernel_rfl
theorem nt_52 : Try.f52.ntmps = 13 := by kernel_rfl
theorem rs_52 : Try.f52.results.toList = [] := by kernel_rfl
theorem nt_22 : Try.f22.ntmps = 40 := by kernel_rfl
theorem rs_22 : Try.f22.results.toList = [] := by kernel_rfl
theorem nt_24 : Try.f24.ntmps = 40 := by kernel_rfl
theorem rs_24 : Try.f24.results.toList = [] := by kernel_rfl
theorem nt_26 : Try.f26.ntmps = 36 := by kernel_rfl
theorem rs_26 : Try.f26.results.toList = [.tmp 2, .tmp 3] := by kernel_rfl
theorem nt_30 : Try.f30.ntmps = 7 := by kernel_rfl
theorem rs_30 : Try.f30.results.toList = [.tmp 2] := by kernel_rfl
theorem nt_57 : Try.f57.ntmps = 18 := by kernel_rfl
theorem rs_57 : Try.f57.results.toList = [.tmp 2] := by kernel_rfl
theorem nt_60 : Try.f60.ntmps = 11 := by kernel_rfl
theorem rs_60 : Try.f60.results.toList = [] := by kernel_rfl
theorem nt_59 : Try.f59.ntmps = 32 := by kernel_rfl
theorem rs_59 : Try.f59.results.toList = [.tmp 4] := by kernel_rfl
theorem nt_32 : Try.f32.ntmps = 34 := by kernel_rfl
theorem rs_32 : Try.f32.results.toList = [.tmp 4] := by kernel_rfl
theorem nt_34 : Try.f34.ntmps = 37 := by kernel_rfl
theorem rs_34 : Try.f34.results.toList = [.tmp 4] := by kernel_rfl
theorem nt_35 : Try.f35.ntmps = 16 := by kernel_rfl
theorem rs_35 : Try.f35.results.toList = [.tmp 2] := by kernel_rfl
theorem nt_36 : Try.f36.ntmps = 11 := by kernel_rfl
theorem rs_36 : Try.f36.results.toList = [.tmp 2] := by kernel_rfl
theorem nt_55 : Try.f55.ntmps = 8 := by kernel_rfl
theorem rs_55 : Try.f55.results.toList = [.tmp 2] := by kernel_rfl
theorem nt_53 : Try.f53.ntmps = 26 := by kernel_rfl
theorem rs_53 : Try.f53.results.toList = [.tmp 4] := by kernel_rfl
theorem nt_58 : Try.f58.ntmps = 21 := by kernel_rfl
theorem rs_58 : Try.f58.results.toList = [.tmp 2] := by kernel_rfl
theorem nt_67 : Try.f67.ntmps = 4 := by kernel_rfl
theorem rs_67 : Try.f67.results.toList = [.tmp 2] := by kernel_rfl
theorem nt_73 : Try.f73.ntmps = 19 := by kernel_rfl
theorem rs_73 : Try.f73.results.toList = [] := by kernel_rfl
theorem nt_54 : Try.f54.ntmps = 29 := by kernel_rfl
theorem rs_54 : Try.f54.results.toList = [.tmp 4] := by kernel_rfl
theorem nt_56 : Try.f56.ntmps = 22 := by kernel_rfl
theorem rs_56 : Try.f56.results.toList = [.tmp 2] := by kernel_rfl
theorem nt_23 : Try.f23.ntmps = 29 := by kernel_rfl
theorem rs_23 : Try.f23.results.toList = [.cell 4 44] := by kernel_rfl
theorem nt_25 : Try.f25.ntmps = 29 := by kernel_rfl
theorem rs_25 : Try.f25.results.toList = [.cell 4 44] := by kernel_rfl
theorem nt_27 : Try.f27.ntmps = 15 := by kernel_rfl
theorem rs_27 : Try.f27.results.toList = [.tmp 2, .tmp 3] := by kernel_rfl
theorem nt_31 : Try.f31.ntmps = 33 := by kernel_rfl
theorem rs_31 : Try.f31.results.toList = [.tmp 4, .cell 5 59] := by kernel_rfl
theorem nt_33 : Try.f33.ntmps = 47 := by kernel_rfl
theorem rs_33 : Try.f33.results.toList = [.tmp 4, .cell 5 59] := by kernel_rfl
theorem nt_28 : Try.f28.ntmps = 4 := by kernel_rfl
theorem rs_28 : Try.f28.results.toList = [.tmp 2] := by kernel_rfl
theorem nt_29 : Try.f29.ntmps = 20 := by kernel_rfl
theorem rs_29 : Try.f29.results.toList = [.tmp 0] := by kernel_rfl
theorem nt_5 : Try.f5.ntmps = 79 := by kernel_rfl
theorem rs_5 : Try.f5.results.toList = [.tmp 2] := by kernel_rfl
theorem nt_6 : Try.f6.ntmps = 103 := by kernel_rfl
theorem rs_6 : Try.f6.results.toList = [.tmp 4] := by kernel_rfl
theorem nt_8 : Try.f8.ntmps = 108 := by kernel_rfl
theorem rs_8 : Try.f8.results.toList = [.tmp 2] := by kernel_rfl
theorem nt_7 : Try.f7.ntmps = 86 := by kernel_rfl
theorem rs_7 : Try.f7.results.toList = [.tmp 4] := by kernel_rfl
theorem nt_88 : Try.f88.ntmps = 33 := by kernel_rfl
theorem rs_88 : Try.f88.results.toList = [.tmp 4] := by kernel_rfl
theorem nt_83 : Try.f83.ntmps = 32 := by kernel_rfl
theorem rs_83 : Try.f83.results.toList = [.tmp 2] := by kernel_rfl
theorem nt_75 : Try.f75.ntmps = 5 := by kernel_rfl
theorem rs_75 : Try.f75.results.toList = [.tmp 2] := by kernel_rfl
theorem nt_84 : Try.f84.ntmps = 36 := by kernel_rfl
theorem rs_84 : Try.f84.results.toList = [.tmp 2] := by kernel_rfl
theorem nt_87 : Try.f87.ntmps = 27 := by kernel_rfl
theorem rs_87 : Try.f87.results.toList = [.tmp 4] := by kernel_rfl
theorem nt_89 : Try.f89.ntmps = 17 := by kernel_rfl
theorem rs_89 : Try.f89.results.toList = [.tmp 4] := by kernel_rfl
theorem nt_86 : Try.f86.ntmps = 9 := by kernel_rfl
theorem rs_86 : Try.f86.results.toList = [.tmp 4] := by kernel_rfl
theorem nt_85 : Try.f85.ntmps = 64 := by kernel_rfl
theorem rs_85 : Try.f85.results.toList = [.cell 2 120] := by kernel_rfl
theorem nt_79 : Try.f79.ntmps = 2 := by kernel_rfl
theorem rs_79 : Try.f79.results.toList = [.cell 0 124] := by kernel_rfl
theorem nt_80 : Try.f80.ntmps = 2 := by kernel_rfl
theorem rs_80 : Try.f80.results.toList = [.cell 0 120] := by kernel_rfl
theorem nt_81 : Try.f81.ntmps = 19 := by kernel_rfl
theorem rs_81 : Try.f81.results.toList = [.tmp 2] := by kernel_rfl
theorem nt_82 : Try.f82.ntmps = 119 := by kernel_rfl
theorem rs_82 : Try.f82.results.toList = [.cell 6 124] := by kernel_rfl
theorem nt_74 : Try.f74.ntmps = 21 := by kernel_rfl
theorem rs_74 : Try.f74.results.toList = [.tmp 2] := by kernel_rfl
theorem nt_68 : Try.f68.ntmps = 7 := by kernel_rfl
theorem rs_68 : Try.f68.results.toList = [.tmp 2] := by kernel_rfl
theorem nt_61 : Try.f61.ntmps = 6 := by kernel_rfl
theorem rs_61 : Try.f61.results.toList = [.tmp 2] := by kernel_rfl
theorem nt_70 : Try.f70.ntmps = 239 := by kernel_rfl
theorem rs_70 : Try.f70.results.toList = [.tmp 2] := by kernel_rfl
theorem nt_76 : Try.f76.ntmps = 2 := by kernel_rfl
theorem rs_76 : Try.f76.results.toList = [.cell 0 120] := by kernel_rfl
theorem nt_77 : Try.f77.ntmps = 22 := by kernel_rfl
theorem rs_77 : Try.f77.results.toList = [.tmp 2] := by kernel_rfl
theorem nt_78 : Try.f78.ntmps = 13 := by kernel_rfl
theorem rs_78 : Try.f78.results.toList = [.tmp 4] := by kernel_rfl
theorem nt_63 : Try.f63.ntmps = 7 := by kernel_rfl
theorem rs_63 : Try.f63.results.toList = [.tmp 2] := by kernel_rfl
theorem nt_37 : Try.f37.ntmps = 26 := by kernel_rfl
theorem rs_37 : Try.f37.results.toList = [.tmp 0] := by kernel_rfl
theorem nt_38 : Try.f38.ntmps = 25 := by kernel_rfl
theorem rs_38 : Try.f38.results.toList = [.tmp 2] := by kernel_rfl
theorem nt_39 : Try.f39.ntmps = 15 := by kernel_rfl
theorem rs_39 : Try.f39.results.toList = [.tmp 2] := by kernel_rfl
theorem nt_40 : Try.f40.ntmps = 42 := by kernel_rfl
theorem rs_40 : Try.f40.results.toList = [.tmp 4, .tmp 5] := by kernel_rfl
theorem nt_46 : Try.f46.ntmps = 36 := by kernel_rfl
theorem rs_46 : Try.f46.results.toList = [.tmp 6] := by kernel_rfl
theorem nt_62 : Try.f62.ntmps = 4 := by kernel_rfl
theorem rs_62 : Try.f62.results.toList = [.tmp 2] := by kernel_rfl
theorem nt_69 : Try.f69.ntmps = 13 := by kernel_rfl
theorem rs_69 : Try.f69.results.toList = [] := by kernel_rfl
theorem nt_41 : Try.f41.ntmps = 53 := by kernel_rfl
theorem rs_41 : Try.f41.results.toList = [.tmp 4, .tmp 5] := by kernel_rfl
theorem nt_43 : Try.f43.ntmps = 39 := by kernel_rfl
theorem rs_43 : Try.f43.results.toList = [.tmp 2] := by kernel_rfl
theorem nt_44 : Try.f44.ntmps = 14 := by kernel_rfl
theorem rs_44 : Try.f44.results.toList = [.tmp 2] := by kernel_rfl
theorem nt_47 : Try.f47.ntmps = 38 := by kernel_rfl
theorem rs_47 : Try.f47.results.toList = [.tmp 6] := by kernel_rfl
theorem nt_42 : Try.f42.ntmps = 26 := by kernel_rfl
theorem rs_42 : Try.f42.results.toList = [.tmp 4] := by kernel_rfl
theorem nt_45 : Try.f45.ntmps = 4 := by kernel_rfl
theorem rs_45 : Try.f45.results.toList = [.tmp 2] := by kernel_rfl
theorem nt_9 : Try.f9.ntmps = 25 := by kernel_rfl
theorem rs_9 : Try.f9.results.toList = [.tmp 2] := by kernel_rfl
theorem nt_10 : Try.f10.ntmps = 65 := by kernel_rfl
theorem rs_10 : Try.f10.results.toList = [.tmp 4] := by kernel_rfl
theorem nt_11 : Try.f11.ntmps = 62 := by kernel_rfl
theorem rs_11 : Try.f11.results.toList = [.tmp 8] := by kernel_rfl
theorem nt_12 : Try.f12.ntmps = 31 := by kernel_rfl
theorem rs_12 : Try.f12.results.toList = [.tmp 4] := by kernel_rfl
theorem nt_15 : Try.f15.ntmps = 62 := by kernel_rfl
theorem rs_15 : Try.f15.results.toList = [.tmp 2] := by kernel_rfl
theorem nt_16 : Try.f16.ntmps = 48 := by kernel_rfl
theorem rs_16 : Try.f16.results.toList = [.tmp 6] := by kernel_rfl
theorem nt_48 : Try.f48.ntmps = 4 := by kernel_rfl
theorem rs_48 : Try.f48.results.toList = [.tmp 2] := by kernel_rfl
theorem nt_64 : Try.f64.ntmps = 21 := by kernel_rfl
theorem rs_64 : Try.f64.results.toList = [] := by kernel_rfl
theorem nt_14 : Try.f14.ntmps = 26 := by kernel_rfl
theorem rs_14 : Try.f14.results.toList = [.tmp 2] := by kernel_rfl
theorem nt_13 : Try.f13.ntmps = 18 := by kernel_rfl
theorem rs_13 : Try.f13.results.toList = [.tmp 0] := by kernel_rfl
theorem nt_17 : Try.f17.ntmps = 52 := by kernel_rfl
theorem rs_17 : Try.f17.results.toList = [.tmp 4] := by kernel_rfl
theorem nt_3 : Try.f3.ntmps = 96 := by kernel_rfl
theorem rs_3 : Try.f3.results.toList = [.tmp 2] := by kernel_rfl
theorem mixed : Try.prog.follows .mixedOrders = true := by kernel_rfl
end Go.Proofs.Ytacglboiodolkaa.AM
