/-
  Q6: Ty Pk1 Pk2.
-/
import Derived.Test.YtofkehedjcinhaaQ5
import Derived.Test.YtofkehedjcinhaaProg
import Derived.KernelRfl
set_option linter.defProp false
set_option linter.unusedVariables false
set_option linter.unusedSimpArgs false
namespace Go.Proofs.Ytofkehedjcinhaa.AM
open Go

theorem und_3 : (Program.underlying Try.prog 3).isSome = true := by kernel_rfl
theorem agg_3 : tyAgg Try.prog 3 = some false := by kernel_rfl
theorem sz_3 : tySize Try.prog 3 = some 1 := by kernel_rfl
theorem by_3 : tyBytes Try.prog 3 = some 8 := by kernel_rfl
theorem zero_3 : tyZero Try.prog 3 = some [.c (.int .i64 0)] := by kernel_rfl
theorem elem_3 : tyElem Try.prog 3 = none := by kernel_rfl
theorem arr_3 : tyArr Try.prog 3 = none := by kernel_rfl
theorem int_3 : tyInt Try.prog 3 = some .i64 := by kernel_rfl
theorem str_3 : tyStr Try.prog 3 = false := by kernel_rfl
theorem bool_3 : tyBool Try.prog 3 = false := by kernel_rfl
theorem ptr_3 : tyPtr Try.prog 3 = false := by kernel_rfl
theorem zag_3 : tyZag Try.prog 3 = false := by kernel_rfl
theorem map_3 : tyMap Try.prog 3 = none := by kernel_rfl
theorem pl_3 : tyPlaces Try.prog 3 = none := by kernel_rfl
def ty_3 := And.intro und_3 <| And.intro agg_3 <| And.intro sz_3 <| And.intro by_3 <| And.intro zero_3 <| And.intro elem_3 <| And.intro arr_3 <| And.intro int_3 <| And.intro str_3 <| And.intro bool_3 <| And.intro ptr_3 <| And.intro zag_3 <| And.intro map_3 <| pl_3
theorem und_4 : (Program.underlying Try.prog 4).isSome = true := by kernel_rfl
theorem agg_4 : tyAgg Try.prog 4 = some false := by kernel_rfl
theorem sz_4 : tySize Try.prog 4 = some 1 := by kernel_rfl
theorem by_4 : tyBytes Try.prog 4 = some 1 := by kernel_rfl
theorem zero_4 : tyZero Try.prog 4 = some [.c (.bool false)] := by kernel_rfl
theorem elem_4 : tyElem Try.prog 4 = none := by kernel_rfl
theorem arr_4 : tyArr Try.prog 4 = none := by kernel_rfl
theorem int_4 : tyInt Try.prog 4 = none := by kernel_rfl
theorem str_4 : tyStr Try.prog 4 = false := by kernel_rfl
theorem bool_4 : tyBool Try.prog 4 = true := by kernel_rfl
theorem ptr_4 : tyPtr Try.prog 4 = false := by kernel_rfl
theorem zag_4 : tyZag Try.prog 4 = false := by kernel_rfl
theorem map_4 : tyMap Try.prog 4 = none := by kernel_rfl
theorem pl_4 : tyPlaces Try.prog 4 = none := by kernel_rfl
def ty_4 := And.intro und_4 <| And.intro agg_4 <| And.intro sz_4 <| And.intro by_4 <| And.intro zero_4 <| And.intro elem_4 <| And.intro arr_4 <| And.intro int_4 <| And.intro str_4 <| And.intro bool_4 <| And.intro ptr_4 <| And.intro zag_4 <| And.intro map_4 <| pl_4
theorem und_5 : (Program.underlying Try.prog 5).isSome = true := by kernel_rfl
theorem agg_5 : tyAgg Try.prog 5 = some false := by kernel_rfl
theorem sz_5 : tySize Try.prog 5 = some 1 := by kernel_rfl
theorem by_5 : tyBytes Try.prog 5 = some 1 := by kernel_rfl
theorem zero_5 : tyZero Try.prog 5 = some [.c (.int .u8 0)] := by kernel_rfl
theorem elem_5 : tyElem Try.prog 5 = none := by kernel_rfl
theorem arr_5 : tyArr Try.prog 5 = none := by kernel_rfl
theorem int_5 : tyInt Try.prog 5 = some .u8 := by kernel_rfl
theorem str_5 : tyStr Try.prog 5 = false := by kernel_rfl
theorem bool_5 : tyBool Try.prog 5 = false := by kernel_rfl
theorem ptr_5 : tyPtr Try.prog 5 = false := by kernel_rfl
theorem zag_5 : tyZag Try.prog 5 = false := by kernel_rfl
theorem map_5 : tyMap Try.prog 5 = none := by kernel_rfl
theorem pl_5 : tyPlaces Try.prog 5 = none := by kernel_rfl
def ty_5 := And.intro und_5 <| And.intro agg_5 <| And.intro sz_5 <| And.intro by_5 <| And.intro zero_5 <| And.intro elem_5 <| And.intro arr_5 <| And.intro int_5 <| And.intro str_5 <| And.intro bool_5 <| And.intro ptr_5 <| And.intro zag_5 <| And.intro map_5 <| pl_5
theorem und_9 : (Program.underlying Try.prog 9).isSome = true := by kernel_rfl
theorem agg_9 : tyAgg Try.prog 9 = some false := by kernel_rfl
theorem sz_9 : tySize Try.prog 9 = some 1 := by kernel_rfl
theorem by_9 : tyBytes Try.prog 9 = some 16 := by kernel_rfl
theorem zero_9 : tyZero Try.prog 9 = some [.c (.str [])] := by kernel_rfl
theorem elem_9 : tyElem Try.prog 9 = none := by kernel_rfl
theorem arr_9 : tyArr Try.prog 9 = none := by kernel_rfl
theorem int_9 : tyInt Try.prog 9 = none := by kernel_rfl
theorem str_9 : tyStr Try.prog 9 = true := by kernel_rfl
theorem bool_9 : tyBool Try.prog 9 = false := by kernel_rfl
theorem ptr_9 : tyPtr Try.prog 9 = false := by kernel_rfl
theorem zag_9 : tyZag Try.prog 9 = false := by kernel_rfl
theorem map_9 : tyMap Try.prog 9 = none := by kernel_rfl
theorem pl_9 : tyPlaces Try.prog 9 = none := by kernel_rfl
def ty_9 := And.intro und_9 <| And.intro agg_9 <| And.intro sz_9 <| And.intro by_9 <| And.intro zero_9 <| And.intro elem_9 <| And.intro arr_9 <| And.intro int_9 <| And.intro str_9 <| And.intro bool_9 <| And.intro ptr_9 <| And.intro zag_9 <| And.intro map_9 <| pl_9
theorem und_22 : (Program.underlying Try.prog 22).isSome = true := by kernel_rfl
theorem agg_22 : tyAgg Try.prog 22 = some false := by kernel_rfl
theorem sz_22 : tySize Try.prog 22 = some 1 := by kernel_rfl
theorem by_22 : tyBytes Try.prog 22 = some 24 := by kernel_rfl
theorem zero_22 : tyZero Try.prog 22 = some [.nilsl] := by kernel_rfl
theorem elem_22 : tyElem Try.prog 22 = some 36 := by kernel_rfl
theorem arr_22 : tyArr Try.prog 22 = none := by kernel_rfl
theorem int_22 : tyInt Try.prog 22 = none := by kernel_rfl
theorem str_22 : tyStr Try.prog 22 = false := by kernel_rfl
theorem bool_22 : tyBool Try.prog 22 = false := by kernel_rfl
theorem ptr_22 : tyPtr Try.prog 22 = false := by kernel_rfl
theorem zag_22 : tyZag Try.prog 22 = false := by kernel_rfl
theorem map_22 : tyMap Try.prog 22 = none := by kernel_rfl
theorem pl_22 : tyPlaces Try.prog 22 = none := by kernel_rfl
def ty_22 := And.intro und_22 <| And.intro agg_22 <| And.intro sz_22 <| And.intro by_22 <| And.intro zero_22 <| And.intro elem_22 <| And.intro arr_22 <| And.intro int_22 <| And.intro str_22 <| And.intro bool_22 <| And.intro ptr_22 <| And.intro zag_22 <| And.intro map_22 <| pl_22
theorem und_24 : (Program.underlying Try.prog 24).isSome = true := by kernel_rfl
theorem agg_24 : tyAgg Try.prog 24 = some true := by kernel_rfl
theorem sz_24 : tySize Try.prog 24 = some 4 := by kernel_rfl
theorem by_24 : tyBytes Try.prog 24 = some 48 := by kernel_rfl
theorem zero_24 : tyZero Try.prog 24 = some [.c (.int .i64 0), .c (.int .i64 0), .c (.int .i64 0), .nilsl] := by kernel_rfl
theorem elem_24 : tyElem Try.prog 24 = none := by kernel_rfl
theorem arr_24 : tyArr Try.prog 24 = none := by kernel_rfl
theorem int_24 : tyInt Try.prog 24 = none := by kernel_rfl
theorem str_24 : tyStr Try.prog 24 = false := by kernel_rfl
theorem bool_24 : tyBool Try.prog 24 = false := by kernel_rfl
theorem ptr_24 : tyPtr Try.prog 24 = false := by kernel_rfl
theorem zag_24 : tyZag Try.prog 24 = true := by kernel_rfl
theorem map_24 : tyMap Try.prog 24 = none := by kernel_rfl
theorem fd_24_0 : tyField Try.prog 24 0 = some (0, 3, 1) := by kernel_rfl
theorem fd_24_1 : tyField Try.prog 24 1 = some (1, 3, 1) := by kernel_rfl
theorem fd_24_2 : tyField Try.prog 24 2 = some (2, 3, 1) := by kernel_rfl
theorem fd_24_3 : tyField Try.prog 24 3 = some (3, 22, 1) := by kernel_rfl
theorem pl_24 : tyPlaces Try.prog 24 = some [(0, 1), (1, 1), (2, 1), (3, 1)] := by kernel_rfl
def ty_24 := And.intro und_24 <| And.intro agg_24 <| And.intro sz_24 <| And.intro by_24 <| And.intro zero_24 <| And.intro elem_24 <| And.intro arr_24 <| And.intro int_24 <| And.intro str_24 <| And.intro bool_24 <| And.intro ptr_24 <| And.intro zag_24 <| And.intro map_24 <| And.intro fd_24_0 <| And.intro fd_24_1 <| And.intro fd_24_2 <| And.intro fd_24_3 <| pl_24
theorem und_26 : (Program.underlying Try.prog 26).isSome = true := by kernel_rfl
theorem agg_26 : tyAgg Try.prog 26 = some false := by kernel_rfl
theorem sz_26 : tySize Try.prog 26 = some 1 := by kernel_rfl
theorem by_26 : tyBytes Try.prog 26 = some 8 := by kernel_rfl
theorem zero_26 : tyZero Try.prog 26 = some [.nilptr] := by kernel_rfl
theorem elem_26 : tyElem Try.prog 26 = none := by kernel_rfl
theorem arr_26 : tyArr Try.prog 26 = none := by kernel_rfl
theorem int_26 : tyInt Try.prog 26 = none := by kernel_rfl
theorem str_26 : tyStr Try.prog 26 = false := by kernel_rfl
theorem bool_26 : tyBool Try.prog 26 = false := by kernel_rfl
theorem ptr_26 : tyPtr Try.prog 26 = true := by kernel_rfl
theorem zag_26 : tyZag Try.prog 26 = false := by kernel_rfl
theorem map_26 : tyMap Try.prog 26 = none := by kernel_rfl
theorem pl_26 : tyPlaces Try.prog 26 = none := by kernel_rfl
def ty_26 := And.intro und_26 <| And.intro agg_26 <| And.intro sz_26 <| And.intro by_26 <| And.intro zero_26 <| And.intro elem_26 <| And.intro arr_26 <| And.intro int_26 <| And.intro str_26 <| And.intro bool_26 <| And.intro ptr_26 <| And.intro zag_26 <| And.intro map_26 <| pl_26
theorem und_27 : (Program.underlying Try.prog 27).isSome = true := by kernel_rfl
theorem agg_27 : tyAgg Try.prog 27 = some false := by kernel_rfl
theorem sz_27 : tySize Try.prog 27 = some 1 := by kernel_rfl
theorem by_27 : tyBytes Try.prog 27 = some 8 := by kernel_rfl
theorem zero_27 : tyZero Try.prog 27 = some [.c (.int .i64 0)] := by kernel_rfl
theorem elem_27 : tyElem Try.prog 27 = none := by kernel_rfl
theorem arr_27 : tyArr Try.prog 27 = none := by kernel_rfl
theorem int_27 : tyInt Try.prog 27 = some .i64 := by kernel_rfl
theorem str_27 : tyStr Try.prog 27 = false := by kernel_rfl
theorem bool_27 : tyBool Try.prog 27 = false := by kernel_rfl
theorem ptr_27 : tyPtr Try.prog 27 = false := by kernel_rfl
theorem zag_27 : tyZag Try.prog 27 = false := by kernel_rfl
theorem map_27 : tyMap Try.prog 27 = none := by kernel_rfl
theorem pl_27 : tyPlaces Try.prog 27 = none := by kernel_rfl
def ty_27 := And.intro und_27 <| And.intro agg_27 <| And.intro sz_27 <| And.intro by_27 <| And.intro zero_27 <| And.intro elem_27 <| And.intro arr_27 <| And.intro int_27 <| And.intro str_27 <| And.intro bool_27 <| And.intro ptr_27 <| And.intro zag_27 <| And.intro map_27 <| pl_27
theorem und_32 : (Program.underlying Try.prog 32).isSome = true := by kernel_rfl
theorem agg_32 : tyAgg Try.prog 32 = some false := by kernel_rfl
theorem sz_32 : tySize Try.prog 32 = some 1 := by kernel_rfl
theorem by_32 : tyBytes Try.prog 32 = some 24 := by kernel_rfl
theorem zero_32 : tyZero Try.prog 32 = some [.nilsl] := by kernel_rfl
theorem elem_32 : tyElem Try.prog 32 = some 24 := by kernel_rfl
theorem arr_32 : tyArr Try.prog 32 = none := by kernel_rfl
theorem int_32 : tyInt Try.prog 32 = none := by kernel_rfl
theorem str_32 : tyStr Try.prog 32 = false := by kernel_rfl
theorem bool_32 : tyBool Try.prog 32 = false := by kernel_rfl
theorem ptr_32 : tyPtr Try.prog 32 = false := by kernel_rfl
theorem zag_32 : tyZag Try.prog 32 = false := by kernel_rfl
theorem map_32 : tyMap Try.prog 32 = none := by kernel_rfl
theorem pl_32 : tyPlaces Try.prog 32 = none := by kernel_rfl
def ty_32 := And.intro und_32 <| And.intro agg_32 <| And.intro sz_32 <| And.intro by_32 <| And.intro zero_32 <| And.intro elem_32 <| And.intro arr_32 <| And.intro int_32 <| And.intro str_32 <| And.intro bool_32 <| And.intro ptr_32 <| And.intro zag_32 <| And.intro map_32 <| pl_32
theorem und_36 : (Program.underlying Try.prog 36).isSome = true := by kernel_rfl
theorem agg_36 : tyAgg Try.prog 36 = some true := by kernel_rfl
theorem sz_36 : tySize Try.prog 36 = some 2 := by kernel_rfl
theorem by_36 : tyBytes Try.prog 36 = some 16 := by kernel_rfl
theorem zero_36 : tyZero Try.prog 36 = some [.c (.int .i64 0), .c (.int .i64 0)] := by kernel_rfl
theorem elem_36 : tyElem Try.prog 36 = none := by kernel_rfl
theorem arr_36 : tyArr Try.prog 36 = none := by kernel_rfl
theorem int_36 : tyInt Try.prog 36 = none := by kernel_rfl
theorem str_36 : tyStr Try.prog 36 = false := by kernel_rfl
theorem bool_36 : tyBool Try.prog 36 = false := by kernel_rfl
theorem ptr_36 : tyPtr Try.prog 36 = false := by kernel_rfl
theorem zag_36 : tyZag Try.prog 36 = true := by kernel_rfl
theorem map_36 : tyMap Try.prog 36 = none := by kernel_rfl
theorem fd_36_0 : tyField Try.prog 36 0 = some (0, 3, 1) := by kernel_rfl
theorem fd_36_1 : tyField Try.prog 36 1 = some (1, 3, 1) := by kernel_rfl
theorem pl_36 : tyPlaces Try.prog 36 = some [(0, 1), (1, 1)] := by kernel_rfl
def ty_36 := And.intro und_36 <| And.intro agg_36 <| And.intro sz_36 <| And.intro by_36 <| And.intro zero_36 <| And.intro elem_36 <| And.intro arr_36 <| And.intro int_36 <| And.intro str_36 <| And.intro bool_36 <| And.intro ptr_36 <| And.intro zag_36 <| And.intro map_36 <| And.intro fd_36_0 <| And.intro fd_36_1 <| pl_36
theorem und_37 : (Program.underlying Try.prog 37).isSome = true := by kernel_rfl
theorem agg_37 : tyAgg Try.prog 37 = some false := by kernel_rfl
theorem sz_37 : tySize Try.prog 37 = some 1 := by kernel_rfl
theorem by_37 : tyBytes Try.prog 37 = some 8 := by kernel_rfl
theorem zero_37 : tyZero Try.prog 37 = some [.nilmp] := by kernel_rfl
theorem elem_37 : tyElem Try.prog 37 = none := by kernel_rfl
theorem arr_37 : tyArr Try.prog 37 = none := by kernel_rfl
theorem int_37 : tyInt Try.prog 37 = none := by kernel_rfl
theorem str_37 : tyStr Try.prog 37 = false := by kernel_rfl
theorem bool_37 : tyBool Try.prog 37 = false := by kernel_rfl
theorem ptr_37 : tyPtr Try.prog 37 = false := by kernel_rfl
theorem zag_37 : tyZag Try.prog 37 = false := by kernel_rfl
theorem map_37 : tyMap Try.prog 37 = some (3, 61) := by kernel_rfl
theorem pl_37 : tyPlaces Try.prog 37 = none := by kernel_rfl
def ty_37 := And.intro und_37 <| And.intro agg_37 <| And.intro sz_37 <| And.intro by_37 <| And.intro zero_37 <| And.intro elem_37 <| And.intro arr_37 <| And.intro int_37 <| And.intro str_37 <| And.intro bool_37 <| And.intro ptr_37 <| And.intro zag_37 <| And.intro map_37 <| pl_37
theorem und_38 : (Program.underlying Try.prog 38).isSome = true := by kernel_rfl
theorem agg_38 : tyAgg Try.prog 38 = some false := by kernel_rfl
theorem sz_38 : tySize Try.prog 38 = some 1 := by kernel_rfl
theorem by_38 : tyBytes Try.prog 38 = some 24 := by kernel_rfl
theorem zero_38 : tyZero Try.prog 38 = some [.nilsl] := by kernel_rfl
theorem elem_38 : tyElem Try.prog 38 = some 3 := by kernel_rfl
theorem arr_38 : tyArr Try.prog 38 = none := by kernel_rfl
theorem int_38 : tyInt Try.prog 38 = none := by kernel_rfl
theorem str_38 : tyStr Try.prog 38 = false := by kernel_rfl
theorem bool_38 : tyBool Try.prog 38 = false := by kernel_rfl
theorem ptr_38 : tyPtr Try.prog 38 = false := by kernel_rfl
theorem zag_38 : tyZag Try.prog 38 = false := by kernel_rfl
theorem map_38 : tyMap Try.prog 38 = none := by kernel_rfl
theorem pl_38 : tyPlaces Try.prog 38 = none := by kernel_rfl
def ty_38 := And.intro und_38 <| And.intro agg_38 <| And.intro sz_38 <| And.intro by_38 <| And.intro zero_38 <| And.intro elem_38 <| And.intro arr_38 <| And.intro int_38 <| And.intro str_38 <| And.intro bool_38 <| And.intro ptr_38 <| And.intro zag_38 <| And.intro map_38 <| pl_38
theorem und_39 : (Program.underlying Try.prog 39).isSome = true := by kernel_rfl
theorem agg_39 : tyAgg Try.prog 39 = some false := by kernel_rfl
theorem sz_39 : tySize Try.prog 39 = some 1 := by kernel_rfl
theorem by_39 : tyBytes Try.prog 39 = some 24 := by kernel_rfl
theorem zero_39 : tyZero Try.prog 39 = some [.nilsl] := by kernel_rfl
theorem elem_39 : tyElem Try.prog 39 = some 4 := by kernel_rfl
theorem arr_39 : tyArr Try.prog 39 = none := by kernel_rfl
theorem int_39 : tyInt Try.prog 39 = none := by kernel_rfl
theorem str_39 : tyStr Try.prog 39 = false := by kernel_rfl
theorem bool_39 : tyBool Try.prog 39 = false := by kernel_rfl
theorem ptr_39 : tyPtr Try.prog 39 = false := by kernel_rfl
theorem zag_39 : tyZag Try.prog 39 = false := by kernel_rfl
theorem map_39 : tyMap Try.prog 39 = none := by kernel_rfl
theorem pl_39 : tyPlaces Try.prog 39 = none := by kernel_rfl
def ty_39 := And.intro und_39 <| And.intro agg_39 <| And.intro sz_39 <| And.intro by_39 <| And.intro zero_39 <| And.intro elem_39 <| And.intro arr_39 <| And.intro int_39 <| And.intro str_39 <| And.intro bool_39 <| And.intro ptr_39 <| And.intro zag_39 <| And.intro map_39 <| pl_39
theorem und_40 : (Program.underlying Try.prog 40).isSome = true := by kernel_rfl
theorem agg_40 : tyAgg Try.prog 40 = some false := by kernel_rfl
theorem sz_40 : tySize Try.prog 40 = some 1 := by kernel_rfl
theorem by_40 : tyBytes Try.prog 40 = some 8 := by kernel_rfl
theorem zero_40 : tyZero Try.prog 40 = some [.nilmp] := by kernel_rfl
theorem elem_40 : tyElem Try.prog 40 = none := by kernel_rfl
theorem arr_40 : tyArr Try.prog 40 = none := by kernel_rfl
theorem int_40 : tyInt Try.prog 40 = none := by kernel_rfl
theorem str_40 : tyStr Try.prog 40 = false := by kernel_rfl
theorem bool_40 : tyBool Try.prog 40 = false := by kernel_rfl
theorem ptr_40 : tyPtr Try.prog 40 = false := by kernel_rfl
theorem zag_40 : tyZag Try.prog 40 = false := by kernel_rfl
theorem map_40 : tyMap Try.prog 40 = some (9, 73) := by kernel_rfl
theorem pl_40 : tyPlaces Try.prog 40 = none := by kernel_rfl
def ty_40 := And.intro und_40 <| And.intro agg_40 <| And.intro sz_40 <| And.intro by_40 <| And.intro zero_40 <| And.intro elem_40 <| And.intro arr_40 <| And.intro int_40 <| And.intro str_40 <| And.intro bool_40 <| And.intro ptr_40 <| And.intro zag_40 <| And.intro map_40 <| pl_40
theorem und_41 : (Program.underlying Try.prog 41).isSome = true := by kernel_rfl
theorem agg_41 : tyAgg Try.prog 41 = some false := by kernel_rfl
theorem sz_41 : tySize Try.prog 41 = some 1 := by kernel_rfl
theorem by_41 : tyBytes Try.prog 41 = some 8 := by kernel_rfl
theorem zero_41 : tyZero Try.prog 41 = some [.nilmp] := by kernel_rfl
theorem elem_41 : tyElem Try.prog 41 = none := by kernel_rfl
theorem arr_41 : tyArr Try.prog 41 = none := by kernel_rfl
theorem int_41 : tyInt Try.prog 41 = none := by kernel_rfl
theorem str_41 : tyStr Try.prog 41 = false := by kernel_rfl
theorem bool_41 : tyBool Try.prog 41 = false := by kernel_rfl
theorem ptr_41 : tyPtr Try.prog 41 = false := by kernel_rfl
theorem zag_41 : tyZag Try.prog 41 = false := by kernel_rfl
theorem map_41 : tyMap Try.prog 41 = some (189, 4) := by kernel_rfl
theorem pl_41 : tyPlaces Try.prog 41 = none := by kernel_rfl
def ty_41 := And.intro und_41 <| And.intro agg_41 <| And.intro sz_41 <| And.intro by_41 <| And.intro zero_41 <| And.intro elem_41 <| And.intro arr_41 <| And.intro int_41 <| And.intro str_41 <| And.intro bool_41 <| And.intro ptr_41 <| And.intro zag_41 <| And.intro map_41 <| pl_41
theorem und_42 : (Program.underlying Try.prog 42).isSome = true := by kernel_rfl
theorem agg_42 : tyAgg Try.prog 42 = some false := by kernel_rfl
theorem sz_42 : tySize Try.prog 42 = some 1 := by kernel_rfl
theorem by_42 : tyBytes Try.prog 42 = some 8 := by kernel_rfl
theorem zero_42 : tyZero Try.prog 42 = some [.nilmp] := by kernel_rfl
theorem elem_42 : tyElem Try.prog 42 = none := by kernel_rfl
theorem arr_42 : tyArr Try.prog 42 = none := by kernel_rfl
theorem int_42 : tyInt Try.prog 42 = none := by kernel_rfl
theorem str_42 : tyStr Try.prog 42 = false := by kernel_rfl
theorem bool_42 : tyBool Try.prog 42 = false := by kernel_rfl
theorem ptr_42 : tyPtr Try.prog 42 = false := by kernel_rfl
theorem zag_42 : tyZag Try.prog 42 = false := by kernel_rfl
theorem map_42 : tyMap Try.prog 42 = some (9, 4) := by kernel_rfl
theorem pl_42 : tyPlaces Try.prog 42 = none := by kernel_rfl
def ty_42 := And.intro und_42 <| And.intro agg_42 <| And.intro sz_42 <| And.intro by_42 <| And.intro zero_42 <| And.intro elem_42 <| And.intro arr_42 <| And.intro int_42 <| And.intro str_42 <| And.intro bool_42 <| And.intro ptr_42 <| And.intro zag_42 <| And.intro map_42 <| pl_42
theorem und_43 : (Program.underlying Try.prog 43).isSome = true := by kernel_rfl
theorem agg_43 : tyAgg Try.prog 43 = some false := by kernel_rfl
theorem sz_43 : tySize Try.prog 43 = some 1 := by kernel_rfl
theorem by_43 : tyBytes Try.prog 43 = some 24 := by kernel_rfl
theorem zero_43 : tyZero Try.prog 43 = some [.nilsl] := by kernel_rfl
theorem elem_43 : tyElem Try.prog 43 = some 9 := by kernel_rfl
theorem arr_43 : tyArr Try.prog 43 = none := by kernel_rfl
theorem int_43 : tyInt Try.prog 43 = none := by kernel_rfl
theorem str_43 : tyStr Try.prog 43 = false := by kernel_rfl
theorem bool_43 : tyBool Try.prog 43 = false := by kernel_rfl
theorem ptr_43 : tyPtr Try.prog 43 = false := by kernel_rfl
theorem zag_43 : tyZag Try.prog 43 = false := by kernel_rfl
theorem map_43 : tyMap Try.prog 43 = none := by kernel_rfl
theorem pl_43 : tyPlaces Try.prog 43 = none := by kernel_rfl
def ty_43 := And.intro und_43 <| And.intro agg_43 <| And.intro sz_43 <| And.intro by_43 <| And.intro zero_43 <| And.intro elem_43 <| And.intro arr_43 <| And.intro int_43 <| And.intro str_43 <| And.intro bool_43 <| And.intro ptr_43 <| And.intro zag_43 <| And.intro map_43 <| pl_43
theorem und_45 : (Program.underlying Try.prog 45).isSome = true := by kernel_rfl
theorem agg_45 : tyAgg Try.prog 45 = some true := by kernel_rfl
theorem sz_45 : tySize Try.prog 45 = some 5 := by kernel_rfl
theorem by_45 : tyBytes Try.prog 45 = some 72 := by kernel_rfl
theorem zero_45 : tyZero Try.prog 45 = some [.nilsl, .nilsl, .c (.int .i64 0), .c (.int .i64 0), .c (.int .i64 0)] := by kernel_rfl
theorem elem_45 : tyElem Try.prog 45 = none := by kernel_rfl
theorem arr_45 : tyArr Try.prog 45 = none := by kernel_rfl
theorem int_45 : tyInt Try.prog 45 = none := by kernel_rfl
theorem str_45 : tyStr Try.prog 45 = false := by kernel_rfl
theorem bool_45 : tyBool Try.prog 45 = false := by kernel_rfl
theorem ptr_45 : tyPtr Try.prog 45 = false := by kernel_rfl
theorem zag_45 : tyZag Try.prog 45 = true := by kernel_rfl
theorem map_45 : tyMap Try.prog 45 = none := by kernel_rfl
theorem fd_45_0 : tyField Try.prog 45 0 = some (0, 43, 1) := by kernel_rfl
theorem fd_45_1 : tyField Try.prog 45 1 = some (1, 43, 1) := by kernel_rfl
theorem fd_45_2 : tyField Try.prog 45 2 = some (2, 3, 1) := by kernel_rfl
theorem fd_45_3 : tyField Try.prog 45 3 = some (3, 3, 1) := by kernel_rfl
theorem fd_45_4 : tyField Try.prog 45 4 = some (4, 3, 1) := by kernel_rfl
theorem pl_45 : tyPlaces Try.prog 45 = some [(0, 1), (1, 1), (2, 1), (3, 1), (4, 1)] := by kernel_rfl
def ty_45 := And.intro und_45 <| And.intro agg_45 <| And.intro sz_45 <| And.intro by_45 <| And.intro zero_45 <| And.intro elem_45 <| And.intro arr_45 <| And.intro int_45 <| And.intro str_45 <| And.intro bool_45 <| And.intro ptr_45 <| And.intro zag_45 <| And.intro map_45 <| And.intro fd_45_0 <| And.intro fd_45_1 <| And.intro fd_45_2 <| And.intro fd_45_3 <| And.intro fd_45_4 <| pl_45
theorem und_46 : (Program.underlying Try.prog 46).isSome = true := by kernel_rfl
theorem agg_46 : tyAgg Try.prog 46 = some false := by kernel_rfl
theorem sz_46 : tySize Try.prog 46 = some 1 := by kernel_rfl
theorem by_46 : tyBytes Try.prog 46 = some 24 := by kernel_rfl
theorem zero_46 : tyZero Try.prog 46 = some [.nilsl] := by kernel_rfl
theorem elem_46 : tyElem Try.prog 46 = some 76 := by kernel_rfl
theorem arr_46 : tyArr Try.prog 46 = none := by kernel_rfl
theorem int_46 : tyInt Try.prog 46 = none := by kernel_rfl
theorem str_46 : tyStr Try.prog 46 = false := by kernel_rfl
theorem bool_46 : tyBool Try.prog 46 = false := by kernel_rfl
theorem ptr_46 : tyPtr Try.prog 46 = false := by kernel_rfl
theorem zag_46 : tyZag Try.prog 46 = false := by kernel_rfl
theorem map_46 : tyMap Try.prog 46 = none := by kernel_rfl
theorem pl_46 : tyPlaces Try.prog 46 = none := by kernel_rfl
def ty_46 := And.intro und_46 <| And.intro agg_46 <| And.intro sz_46 <| And.intro by_46 <| And.intro zero_46 <| And.intro elem_46 <| And.intro arr_46 <| And.intro int_46 <| And.intro str_46 <| And.intro bool_46 <| And.intro ptr_46 <| And.intro zag_46 <| And.intro map_46 <| pl_46
theorem und_47 : (Program.underlying Try.prog 47).isSome = true := by kernel_rfl
theorem agg_47 : tyAgg Try.prog 47 = some false := by kernel_rfl
theorem sz_47 : tySize Try.prog 47 = some 1 := by kernel_rfl
theorem by_47 : tyBytes Try.prog 47 = some 24 := by kernel_rfl
theorem zero_47 : tyZero Try.prog 47 = some [.nilsl] := by kernel_rfl
theorem elem_47 : tyElem Try.prog 47 = some 79 := by kernel_rfl
theorem arr_47 : tyArr Try.prog 47 = none := by kernel_rfl
theorem int_47 : tyInt Try.prog 47 = none := by kernel_rfl
theorem str_47 : tyStr Try.prog 47 = false := by kernel_rfl
theorem bool_47 : tyBool Try.prog 47 = false := by kernel_rfl
theorem ptr_47 : tyPtr Try.prog 47 = false := by kernel_rfl
theorem zag_47 : tyZag Try.prog 47 = false := by kernel_rfl
theorem map_47 : tyMap Try.prog 47 = none := by kernel_rfl
theorem pl_47 : tyPlaces Try.prog 47 = none := by kernel_rfl
def ty_47 := And.intro und_47 <| And.intro agg_47 <| And.intro sz_47 <| And.intro by_47 <| And.intro zero_47 <| And.intro elem_47 <| And.intro arr_47 <| And.intro int_47 <| And.intro str_47 <| And.intro bool_47 <| And.intro ptr_47 <| And.intro zag_47 <| And.intro map_47 <| pl_47
theorem und_48 : (Program.underlying Try.prog 48).isSome = true := by kernel_rfl
theorem agg_48 : tyAgg Try.prog 48 = some false := by kernel_rfl
theorem sz_48 : tySize Try.prog 48 = some 1 := by kernel_rfl
theorem by_48 : tyBytes Try.prog 48 = some 24 := by kernel_rfl
theorem zero_48 : tyZero Try.prog 48 = some [.nilsl] := by kernel_rfl
theorem elem_48 : tyElem Try.prog 48 = some 61 := by kernel_rfl
theorem arr_48 : tyArr Try.prog 48 = none := by kernel_rfl
theorem int_48 : tyInt Try.prog 48 = none := by kernel_rfl
theorem str_48 : tyStr Try.prog 48 = false := by kernel_rfl
theorem bool_48 : tyBool Try.prog 48 = false := by kernel_rfl
theorem ptr_48 : tyPtr Try.prog 48 = false := by kernel_rfl
theorem zag_48 : tyZag Try.prog 48 = false := by kernel_rfl
theorem map_48 : tyMap Try.prog 48 = none := by kernel_rfl
theorem pl_48 : tyPlaces Try.prog 48 = none := by kernel_rfl
def ty_48 := And.intro und_48 <| And.intro agg_48 <| And.intro sz_48 <| And.intro by_48 <| And.intro zero_48 <| And.intro elem_48 <| And.intro arr_48 <| And.intro int_48 <| And.intro str_48 <| And.intro bool_48 <| And.intro ptr_48 <| And.intro zag_48 <| And.intro map_48 <| pl_48
theorem und_49 : (Program.underlying Try.prog 49).isSome = true := by kernel_rfl
theorem agg_49 : tyAgg Try.prog 49 = some false := by kernel_rfl
theorem sz_49 : tySize Try.prog 49 = some 1 := by kernel_rfl
theorem by_49 : tyBytes Try.prog 49 = some 24 := by kernel_rfl
theorem zero_49 : tyZero Try.prog 49 = some [.nilsl] := by kernel_rfl
theorem elem_49 : tyElem Try.prog 49 = some 193 := by kernel_rfl
theorem arr_49 : tyArr Try.prog 49 = none := by kernel_rfl
theorem int_49 : tyInt Try.prog 49 = none := by kernel_rfl
theorem str_49 : tyStr Try.prog 49 = false := by kernel_rfl
theorem bool_49 : tyBool Try.prog 49 = false := by kernel_rfl
theorem ptr_49 : tyPtr Try.prog 49 = false := by kernel_rfl
theorem zag_49 : tyZag Try.prog 49 = false := by kernel_rfl
theorem map_49 : tyMap Try.prog 49 = none := by kernel_rfl
theorem pl_49 : tyPlaces Try.prog 49 = none := by kernel_rfl
def ty_49 := And.intro und_49 <| And.intro agg_49 <| And.intro sz_49 <| And.intro by_49 <| And.intro zero_49 <| And.intro elem_49 <| And.intro arr_49 <| And.intro int_49 <| And.intro str_49 <| And.intro bool_49 <| And.intro ptr_49 <| And.intro zag_49 <| And.intro map_49 <| pl_49
theorem und_50 : (Program.underlying Try.prog 50).isSome = true := by kernel_rfl
theorem agg_50 : tyAgg Try.prog 50 = some false := by kernel_rfl
theorem sz_50 : tySize Try.prog 50 = some 1 := by kernel_rfl
theorem by_50 : tyBytes Try.prog 50 = some 24 := by kernel_rfl
theorem zero_50 : tyZero Try.prog 50 = some [.nilsl] := by kernel_rfl
theorem elem_50 : tyElem Try.prog 50 = some 195 := by kernel_rfl
theorem arr_50 : tyArr Try.prog 50 = none := by kernel_rfl
theorem int_50 : tyInt Try.prog 50 = none := by kernel_rfl
theorem str_50 : tyStr Try.prog 50 = false := by kernel_rfl
theorem bool_50 : tyBool Try.prog 50 = false := by kernel_rfl
theorem ptr_50 : tyPtr Try.prog 50 = false := by kernel_rfl
theorem zag_50 : tyZag Try.prog 50 = false := by kernel_rfl
theorem map_50 : tyMap Try.prog 50 = none := by kernel_rfl
theorem pl_50 : tyPlaces Try.prog 50 = none := by kernel_rfl
def ty_50 := And.intro und_50 <| And.intro agg_50 <| And.intro sz_50 <| And.intro by_50 <| And.intro zero_50 <| And.intro elem_50 <| And.intro arr_50 <| And.intro int_50 <| And.intro str_50 <| And.intro bool_50 <| And.intro ptr_50 <| And.intro zag_50 <| And.intro map_50 <| pl_50
theorem und_51 : (Program.underlying Try.prog 51).isSome = true := by kernel_rfl
theorem agg_51 : tyAgg Try.prog 51 = some false := by kernel_rfl
theorem sz_51 : tySize Try.prog 51 = some 1 := by kernel_rfl
theorem by_51 : tyBytes Try.prog 51 = some 24 := by kernel_rfl
theorem zero_51 : tyZero Try.prog 51 = some [.nilsl] := by kernel_rfl
theorem elem_51 : tyElem Try.prog 51 = some 197 := by kernel_rfl
theorem arr_51 : tyArr Try.prog 51 = none := by kernel_rfl
theorem int_51 : tyInt Try.prog 51 = none := by kernel_rfl
theorem str_51 : tyStr Try.prog 51 = false := by kernel_rfl
theorem bool_51 : tyBool Try.prog 51 = false := by kernel_rfl
theorem ptr_51 : tyPtr Try.prog 51 = false := by kernel_rfl
theorem zag_51 : tyZag Try.prog 51 = false := by kernel_rfl
theorem map_51 : tyMap Try.prog 51 = none := by kernel_rfl
theorem pl_51 : tyPlaces Try.prog 51 = none := by kernel_rfl
def ty_51 := And.intro und_51 <| And.intro agg_51 <| And.intro sz_51 <| And.intro by_51 <| And.intro zero_51 <| And.intro elem_51 <| And.intro arr_51 <| And.intro int_51 <| And.intro str_51 <| And.intro bool_51 <| And.intro ptr_51 <| And.intro zag_51 <| And.intro map_51 <| pl_51
theorem und_52 : (Program.underlying Try.prog 52).isSome = true := by kernel_rfl
theorem agg_52 : tyAgg Try.prog 52 = some false := by kernel_rfl
theorem sz_52 : tySize Try.prog 52 = some 1 := by kernel_rfl
theorem by_52 : tyBytes Try.prog 52 = some 24 := by kernel_rfl
theorem zero_52 : tyZero Try.prog 52 = some [.nilsl] := by kernel_rfl
theorem elem_52 : tyElem Try.prog 52 = some 58 := by kernel_rfl
theorem arr_52 : tyArr Try.prog 52 = none := by kernel_rfl
theorem int_52 : tyInt Try.prog 52 = none := by kernel_rfl
theorem str_52 : tyStr Try.prog 52 = false := by kernel_rfl
theorem bool_52 : tyBool Try.prog 52 = false := by kernel_rfl
theorem ptr_52 : tyPtr Try.prog 52 = false := by kernel_rfl
theorem zag_52 : tyZag Try.prog 52 = false := by kernel_rfl
theorem map_52 : tyMap Try.prog 52 = none := by kernel_rfl
theorem pl_52 : tyPlaces Try.prog 52 = none := by kernel_rfl
def ty_52 := And.intro und_52 <| And.intro agg_52 <| And.intro sz_52 <| And.intro by_52 <| And.intro zero_52 <| And.intro elem_52 <| And.intro arr_52 <| And.intro int_52 <| And.intro str_52 <| And.intro bool_52 <| And.intro ptr_52 <| And.intro zag_52 <| And.intro map_52 <| pl_52
theorem und_53 : (Program.underlying Try.prog 53).isSome = true := by kernel_rfl
theorem agg_53 : tyAgg Try.prog 53 = some false := by kernel_rfl
theorem sz_53 : tySize Try.prog 53 = some 1 := by kernel_rfl
theorem by_53 : tyBytes Try.prog 53 = some 24 := by kernel_rfl
theorem zero_53 : tyZero Try.prog 53 = some [.nilsl] := by kernel_rfl
theorem elem_53 : tyElem Try.prog 53 = some 199 := by kernel_rfl
theorem arr_53 : tyArr Try.prog 53 = none := by kernel_rfl
theorem int_53 : tyInt Try.prog 53 = none := by kernel_rfl
theorem str_53 : tyStr Try.prog 53 = false := by kernel_rfl
theorem bool_53 : tyBool Try.prog 53 = false := by kernel_rfl
theorem ptr_53 : tyPtr Try.prog 53 = false := by kernel_rfl
theorem zag_53 : tyZag Try.prog 53 = false := by kernel_rfl
theorem map_53 : tyMap Try.prog 53 = none := by kernel_rfl
theorem pl_53 : tyPlaces Try.prog 53 = none := by kernel_rfl
def ty_53 := And.intro und_53 <| And.intro agg_53 <| And.intro sz_53 <| And.intro by_53 <| And.intro zero_53 <| And.intro elem_53 <| And.intro arr_53 <| And.intro int_53 <| And.intro str_53 <| And.intro bool_53 <| And.intro ptr_53 <| And.intro zag_53 <| And.intro map_53 <| pl_53
theorem und_55 : (Program.underlying Try.prog 55).isSome = true := by kernel_rfl
theorem agg_55 : tyAgg Try.prog 55 = some true := by kernel_rfl
theorem sz_55 : tySize Try.prog 55 = some 26 := by kernel_rfl
theorem by_55 : tyBytes Try.prog 55 = some 408 := by kernel_rfl
theorem zero_55 : tyZero Try.prog 55 = some [.c (.int .i64 0), .c (.int .i64 0), .c (.int .i64 0), .nilsl, .nilsl, .nilsl, .c (.int .i64 0), .c (.int .i64 0), .c (.int .i64 0), .c (.int .i64 0), .nilsl, .nilsl, .nilmp, .nilsl, .nilsl, .nilsl, .nilsl, .nilsl, .nilsl, .nilsl, .nilmp, .nilmp, .nilmp, .nilsl, .c (.bool false), .c (.bool false)] := by kernel_rfl
theorem elem_55 : tyElem Try.prog 55 = none := by kernel_rfl
theorem arr_55 : tyArr Try.prog 55 = none := by kernel_rfl
theorem int_55 : tyInt Try.prog 55 = none := by kernel_rfl
theorem str_55 : tyStr Try.prog 55 = false := by kernel_rfl
theorem bool_55 : tyBool Try.prog 55 = false := by kernel_rfl
theorem ptr_55 : tyPtr Try.prog 55 = false := by kernel_rfl
theorem zag_55 : tyZag Try.prog 55 = true := by kernel_rfl
theorem map_55 : tyMap Try.prog 55 = none := by kernel_rfl
theorem fd_55_0 : tyField Try.prog 55 0 = some (0, 24, 4) := by kernel_rfl
theorem fd_55_1 : tyField Try.prog 55 1 = some (4, 45, 5) := by kernel_rfl
theorem fd_55_2 : tyField Try.prog 55 2 = some (9, 3, 1) := by kernel_rfl
theorem fd_55_3 : tyField Try.prog 55 3 = some (10, 46, 1) := by kernel_rfl
theorem fd_55_4 : tyField Try.prog 55 4 = some (11, 47, 1) := by kernel_rfl
theorem fd_55_5 : tyField Try.prog 55 5 = some (12, 37, 1) := by kernel_rfl
theorem fd_55_6 : tyField Try.prog 55 6 = some (13, 48, 1) := by kernel_rfl
theorem fd_55_7 : tyField Try.prog 55 7 = some (14, 38, 1) := by kernel_rfl
theorem fd_55_8 : tyField Try.prog 55 8 = some (15, 49, 1) := by kernel_rfl
theorem fd_55_9 : tyField Try.prog 55 9 = some (16, 50, 1) := by kernel_rfl
theorem fd_55_10 : tyField Try.prog 55 10 = some (17, 39, 1) := by kernel_rfl
theorem fd_55_11 : tyField Try.prog 55 11 = some (18, 51, 1) := by kernel_rfl
theorem fd_55_12 : tyField Try.prog 55 12 = some (19, 52, 1) := by kernel_rfl
theorem fd_55_13 : tyField Try.prog 55 13 = some (20, 40, 1) := by kernel_rfl
theorem fd_55_14 : tyField Try.prog 55 14 = some (21, 41, 1) := by kernel_rfl
theorem fd_55_15 : tyField Try.prog 55 15 = some (22, 42, 1) := by kernel_rfl
theorem fd_55_16 : tyField Try.prog 55 16 = some (23, 53, 1) := by kernel_rfl
theorem fd_55_17 : tyField Try.prog 55 17 = some (24, 4, 1) := by kernel_rfl
theorem fd_55_18 : tyField Try.prog 55 18 = some (25, 4, 1) := by kernel_rfl
theorem pl_55 : tyPlaces Try.prog 55 = some [(0, 4), (4, 5), (9, 1), (10, 1), (11, 1), (12, 1), (13, 1), (14, 1), (15, 1), (16, 1), (17, 1), (18, 1), (19, 1), (20, 1), (21, 1), (22, 1), (23, 1), (24, 1), (25, 1)] := by kernel_rfl
def ty_55 := And.intro und_55 <| And.intro agg_55 <| And.intro sz_55 <| And.intro by_55 <| And.intro zero_55 <| And.intro elem_55 <| And.intro arr_55 <| And.intro int_55 <| And.intro str_55 <| And.intro bool_55 <| And.intro ptr_55 <| And.intro zag_55 <| And.intro map_55 <| And.intro fd_55_0 <| And.intro fd_55_1 <| And.intro fd_55_2 <| And.intro fd_55_3 <| And.intro fd_55_4 <| And.intro fd_55_5 <| And.intro fd_55_6 <| And.intro fd_55_7 <| And.intro fd_55_8 <| And.intro fd_55_9 <| And.intro fd_55_10 <| And.intro fd_55_11 <| And.intro fd_55_12 <| And.intro fd_55_13 <| And.intro fd_55_14 <| And.intro fd_55_15 <| And.intro fd_55_16 <| And.intro fd_55_17 <| And.intro fd_55_18 <| pl_55
theorem und_56 : (Program.underlying Try.prog 56).isSome = true := by kernel_rfl
theorem agg_56 : tyAgg Try.prog 56 = some false := by kernel_rfl
theorem sz_56 : tySize Try.prog 56 = some 1 := by kernel_rfl
theorem by_56 : tyBytes Try.prog 56 = some 24 := by kernel_rfl
theorem zero_56 : tyZero Try.prog 56 = some [.nilsl] := by kernel_rfl
theorem elem_56 : tyElem Try.prog 56 = some 189 := by kernel_rfl
theorem arr_56 : tyArr Try.prog 56 = none := by kernel_rfl
theorem int_56 : tyInt Try.prog 56 = none := by kernel_rfl
theorem str_56 : tyStr Try.prog 56 = false := by kernel_rfl
theorem bool_56 : tyBool Try.prog 56 = false := by kernel_rfl
theorem ptr_56 : tyPtr Try.prog 56 = false := by kernel_rfl
theorem zag_56 : tyZag Try.prog 56 = false := by kernel_rfl
theorem map_56 : tyMap Try.prog 56 = none := by kernel_rfl
theorem pl_56 : tyPlaces Try.prog 56 = none := by kernel_rfl
def ty_56 := And.intro und_56 <| And.intro agg_56 <| And.intro sz_56 <| And.intro by_56 <| And.intro zero_56 <| And.intro elem_56 <| And.intro arr_56 <| And.intro int_56 <| And.intro str_56 <| And.intro bool_56 <| And.intro ptr_56 <| And.intro zag_56 <| And.intro map_56 <| pl_56
theorem und_58 : (Program.underlying Try.prog 58).isSome = true := by kernel_rfl
theorem agg_58 : tyAgg Try.prog 58 = some true := by kernel_rfl
theorem sz_58 : tySize Try.prog 58 = some 4 := by kernel_rfl
theorem by_58 : tyBytes Try.prog 58 = some 56 := by kernel_rfl
theorem zero_58 : tyZero Try.prog 58 = some [.c (.int .i64 0), .c (.int .i64 0), .c (.str []), .nilsl] := by kernel_rfl
theorem elem_58 : tyElem Try.prog 58 = none := by kernel_rfl
theorem arr_58 : tyArr Try.prog 58 = none := by kernel_rfl
theorem int_58 : tyInt Try.prog 58 = none := by kernel_rfl
theorem str_58 : tyStr Try.prog 58 = false := by kernel_rfl
theorem bool_58 : tyBool Try.prog 58 = false := by kernel_rfl
theorem ptr_58 : tyPtr Try.prog 58 = false := by kernel_rfl
theorem zag_58 : tyZag Try.prog 58 = true := by kernel_rfl
theorem map_58 : tyMap Try.prog 58 = none := by kernel_rfl
theorem fd_58_0 : tyField Try.prog 58 0 = some (0, 3, 1) := by kernel_rfl
theorem fd_58_1 : tyField Try.prog 58 1 = some (1, 3, 1) := by kernel_rfl
theorem fd_58_2 : tyField Try.prog 58 2 = some (2, 9, 1) := by kernel_rfl
theorem fd_58_3 : tyField Try.prog 58 3 = some (3, 56, 1) := by kernel_rfl
theorem pl_58 : tyPlaces Try.prog 58 = some [(0, 1), (1, 1), (2, 1), (3, 1)] := by kernel_rfl
def ty_58 := And.intro und_58 <| And.intro agg_58 <| And.intro sz_58 <| And.intro by_58 <| And.intro zero_58 <| And.intro elem_58 <| And.intro arr_58 <| And.intro int_58 <| And.intro str_58 <| And.intro bool_58 <| And.intro ptr_58 <| And.intro zag_58 <| And.intro map_58 <| And.intro fd_58_0 <| And.intro fd_58_1 <| And.intro fd_58_2 <| And.intro fd_58_3 <| pl_58
theorem und_61 : (Program.underlying Try.prog 61).isSome = true := by kernel_rfl
theorem agg_61 : tyAgg Try.prog 61 = some true := by kernel_rfl
theorem sz_61 : tySize Try.prog 61 = some 3 := by kernel_rfl
theorem by_61 : tyBytes Try.prog 61 = some 48 := by kernel_rfl
theorem zero_61 : tyZero Try.prog 61 = some [.c (.str []), .nilsl, .c (.int .i64 0)] := by kernel_rfl
theorem elem_61 : tyElem Try.prog 61 = none := by kernel_rfl
theorem arr_61 : tyArr Try.prog 61 = none := by kernel_rfl
theorem int_61 : tyInt Try.prog 61 = none := by kernel_rfl
theorem str_61 : tyStr Try.prog 61 = false := by kernel_rfl
theorem bool_61 : tyBool Try.prog 61 = false := by kernel_rfl
theorem ptr_61 : tyPtr Try.prog 61 = false := by kernel_rfl
theorem zag_61 : tyZag Try.prog 61 = true := by kernel_rfl
theorem map_61 : tyMap Try.prog 61 = none := by kernel_rfl
theorem fd_61_0 : tyField Try.prog 61 0 = some (0, 9, 1) := by kernel_rfl
theorem fd_61_1 : tyField Try.prog 61 1 = some (1, 43, 1) := by kernel_rfl
theorem fd_61_2 : tyField Try.prog 61 2 = some (2, 3, 1) := by kernel_rfl
theorem pl_61 : tyPlaces Try.prog 61 = some [(0, 1), (1, 1), (2, 1)] := by kernel_rfl
def ty_61 := And.intro und_61 <| And.intro agg_61 <| And.intro sz_61 <| And.intro by_61 <| And.intro zero_61 <| And.intro elem_61 <| And.intro arr_61 <| And.intro int_61 <| And.intro str_61 <| And.intro bool_61 <| And.intro ptr_61 <| And.intro zag_61 <| And.intro map_61 <| And.intro fd_61_0 <| And.intro fd_61_1 <| And.intro fd_61_2 <| pl_61
theorem und_73 : (Program.underlying Try.prog 73).isSome = true := by kernel_rfl
theorem agg_73 : tyAgg Try.prog 73 = some false := by kernel_rfl
theorem sz_73 : tySize Try.prog 73 = some 1 := by kernel_rfl
theorem by_73 : tyBytes Try.prog 73 = some 24 := by kernel_rfl
theorem zero_73 : tyZero Try.prog 73 = some [.nilsl] := by kernel_rfl
theorem elem_73 : tyElem Try.prog 73 = some 5 := by kernel_rfl
theorem arr_73 : tyArr Try.prog 73 = none := by kernel_rfl
theorem int_73 : tyInt Try.prog 73 = none := by kernel_rfl
theorem str_73 : tyStr Try.prog 73 = false := by kernel_rfl
theorem bool_73 : tyBool Try.prog 73 = false := by kernel_rfl
theorem ptr_73 : tyPtr Try.prog 73 = false := by kernel_rfl
theorem zag_73 : tyZag Try.prog 73 = false := by kernel_rfl
theorem map_73 : tyMap Try.prog 73 = none := by kernel_rfl
theorem pl_73 : tyPlaces Try.prog 73 = none := by kernel_rfl
def ty_73 := And.intro und_73 <| And.intro agg_73 <| And.intro sz_73 <| And.intro by_73 <| And.intro zero_73 <| And.intro elem_73 <| And.intro arr_73 <| And.intro int_73 <| And.intro str_73 <| And.intro bool_73 <| And.intro ptr_73 <| And.intro zag_73 <| And.intro map_73 <| pl_73
theorem und_76 : (Program.underlying Try.prog 76).isSome = true := by kernel_rfl
theorem agg_76 : tyAgg Try.prog 76 = some false := by kernel_rfl
theorem sz_76 : tySize Try.prog 76 = some 1 := by kernel_rfl
theorem by_76 : tyBytes Try.prog 76 = some 8 := by kernel_rfl
theorem zero_76 : tyZero Try.prog 76 = some [.nilptr] := by kernel_rfl
theorem elem_76 : tyElem Try.prog 76 = none := by kernel_rfl
theorem arr_76 : tyArr Try.prog 76 = none := by kernel_rfl
theorem int_76 : tyInt Try.prog 76 = none := by kernel_rfl
theorem str_76 : tyStr Try.prog 76 = false := by kernel_rfl
theorem bool_76 : tyBool Try.prog 76 = false := by kernel_rfl
theorem ptr_76 : tyPtr Try.prog 76 = true := by kernel_rfl
theorem zag_76 : tyZag Try.prog 76 = false := by kernel_rfl
theorem map_76 : tyMap Try.prog 76 = none := by kernel_rfl
theorem pl_76 : tyPlaces Try.prog 76 = none := by kernel_rfl
def ty_76 := And.intro und_76 <| And.intro agg_76 <| And.intro sz_76 <| And.intro by_76 <| And.intro zero_76 <| And.intro elem_76 <| And.intro arr_76 <| And.intro int_76 <| And.intro str_76 <| And.intro bool_76 <| And.intro ptr_76 <| And.intro zag_76 <| And.intro map_76 <| pl_76
theorem und_79 : (Program.underlying Try.prog 79).isSome = true := by kernel_rfl
theorem agg_79 : tyAgg Try.prog 79 = some false := by kernel_rfl
theorem sz_79 : tySize Try.prog 79 = some 1 := by kernel_rfl
theorem by_79 : tyBytes Try.prog 79 = some 8 := by kernel_rfl
theorem zero_79 : tyZero Try.prog 79 = some [.nilptr] := by kernel_rfl
theorem elem_79 : tyElem Try.prog 79 = none := by kernel_rfl
theorem arr_79 : tyArr Try.prog 79 = none := by kernel_rfl
theorem int_79 : tyInt Try.prog 79 = none := by kernel_rfl
theorem str_79 : tyStr Try.prog 79 = false := by kernel_rfl
theorem bool_79 : tyBool Try.prog 79 = false := by kernel_rfl
theorem ptr_79 : tyPtr Try.prog 79 = true := by kernel_rfl
theorem zag_79 : tyZag Try.prog 79 = false := by kernel_rfl
theorem map_79 : tyMap Try.prog 79 = none := by kernel_rfl
theorem pl_79 : tyPlaces Try.prog 79 = none := by kernel_rfl
def ty_79 := And.intro und_79 <| And.intro agg_79 <| And.intro sz_79 <| And.intro by_79 <| And.intro zero_79 <| And.intro elem_79 <| And.intro arr_79 <| And.intro int_79 <| And.intro str_79 <| And.intro bool_79 <| And.intro ptr_79 <| And.intro zag_79 <| And.intro map_79 <| pl_79
theorem und_83 : (Program.underlying Try.prog 83).isSome = true := by kernel_rfl
theorem agg_83 : tyAgg Try.prog 83 = some false := by kernel_rfl
theorem sz_83 : tySize Try.prog 83 = some 1 := by kernel_rfl
theorem by_83 : tyBytes Try.prog 83 = some 8 := by kernel_rfl
theorem zero_83 : tyZero Try.prog 83 = some [.c (.int .u64 0)] := by kernel_rfl
theorem elem_83 : tyElem Try.prog 83 = none := by kernel_rfl
theorem arr_83 : tyArr Try.prog 83 = none := by kernel_rfl
theorem int_83 : tyInt Try.prog 83 = some .u64 := by kernel_rfl
theorem str_83 : tyStr Try.prog 83 = false := by kernel_rfl
theorem bool_83 : tyBool Try.prog 83 = false := by kernel_rfl
theorem ptr_83 : tyPtr Try.prog 83 = false := by kernel_rfl
theorem zag_83 : tyZag Try.prog 83 = false := by kernel_rfl
theorem map_83 : tyMap Try.prog 83 = none := by kernel_rfl
theorem pl_83 : tyPlaces Try.prog 83 = none := by kernel_rfl
def ty_83 := And.intro und_83 <| And.intro agg_83 <| And.intro sz_83 <| And.intro by_83 <| And.intro zero_83 <| And.intro elem_83 <| And.intro arr_83 <| And.intro int_83 <| And.intro str_83 <| And.intro bool_83 <| And.intro ptr_83 <| And.intro zag_83 <| And.intro map_83 <| pl_83
theorem und_102 : (Program.underlying Try.prog 102).isSome = true := by kernel_rfl
theorem agg_102 : tyAgg Try.prog 102 = some false := by kernel_rfl
theorem sz_102 : tySize Try.prog 102 = some 1 := by kernel_rfl
theorem by_102 : tyBytes Try.prog 102 = some 8 := by kernel_rfl
theorem zero_102 : tyZero Try.prog 102 = some [.nilmp] := by kernel_rfl
theorem elem_102 : tyElem Try.prog 102 = none := by kernel_rfl
theorem arr_102 : tyArr Try.prog 102 = none := by kernel_rfl
theorem int_102 : tyInt Try.prog 102 = none := by kernel_rfl
theorem str_102 : tyStr Try.prog 102 = false := by kernel_rfl
theorem bool_102 : tyBool Try.prog 102 = false := by kernel_rfl
theorem ptr_102 : tyPtr Try.prog 102 = false := by kernel_rfl
theorem zag_102 : tyZag Try.prog 102 = false := by kernel_rfl
theorem map_102 : tyMap Try.prog 102 = some (109, 56) := by kernel_rfl
theorem pl_102 : tyPlaces Try.prog 102 = none := by kernel_rfl
def ty_102 := And.intro und_102 <| And.intro agg_102 <| And.intro sz_102 <| And.intro by_102 <| And.intro zero_102 <| And.intro elem_102 <| And.intro arr_102 <| And.intro int_102 <| And.intro str_102 <| And.intro bool_102 <| And.intro ptr_102 <| And.intro zag_102 <| And.intro map_102 <| pl_102
theorem und_103 : (Program.underlying Try.prog 103).isSome = true := by kernel_rfl
theorem agg_103 : tyAgg Try.prog 103 = some false := by kernel_rfl
theorem sz_103 : tySize Try.prog 103 = some 1 := by kernel_rfl
theorem by_103 : tyBytes Try.prog 103 = some 8 := by kernel_rfl
theorem zero_103 : tyZero Try.prog 103 = some [.nilmp] := by kernel_rfl
theorem elem_103 : tyElem Try.prog 103 = none := by kernel_rfl
theorem arr_103 : tyArr Try.prog 103 = none := by kernel_rfl
theorem int_103 : tyInt Try.prog 103 = none := by kernel_rfl
theorem str_103 : tyStr Try.prog 103 = false := by kernel_rfl
theorem bool_103 : tyBool Try.prog 103 = false := by kernel_rfl
theorem ptr_103 : tyPtr Try.prog 103 = false := by kernel_rfl
theorem zag_103 : tyZag Try.prog 103 = false := by kernel_rfl
theorem map_103 : tyMap Try.prog 103 = some (3, 56) := by kernel_rfl
theorem pl_103 : tyPlaces Try.prog 103 = none := by kernel_rfl
def ty_103 := And.intro und_103 <| And.intro agg_103 <| And.intro sz_103 <| And.intro by_103 <| And.intro zero_103 <| And.intro elem_103 <| And.intro arr_103 <| And.intro int_103 <| And.intro str_103 <| And.intro bool_103 <| And.intro ptr_103 <| And.intro zag_103 <| And.intro map_103 <| pl_103
theorem und_104 : (Program.underlying Try.prog 104).isSome = true := by kernel_rfl
theorem agg_104 : tyAgg Try.prog 104 = some false := by kernel_rfl
theorem sz_104 : tySize Try.prog 104 = some 1 := by kernel_rfl
theorem by_104 : tyBytes Try.prog 104 = some 8 := by kernel_rfl
theorem zero_104 : tyZero Try.prog 104 = some [.nilmp] := by kernel_rfl
theorem elem_104 : tyElem Try.prog 104 = none := by kernel_rfl
theorem arr_104 : tyArr Try.prog 104 = none := by kernel_rfl
theorem int_104 : tyInt Try.prog 104 = none := by kernel_rfl
theorem str_104 : tyStr Try.prog 104 = false := by kernel_rfl
theorem bool_104 : tyBool Try.prog 104 = false := by kernel_rfl
theorem ptr_104 : tyPtr Try.prog 104 = false := by kernel_rfl
theorem zag_104 : tyZag Try.prog 104 = false := by kernel_rfl
theorem map_104 : tyMap Try.prog 104 = some (9, 58) := by kernel_rfl
theorem pl_104 : tyPlaces Try.prog 104 = none := by kernel_rfl
def ty_104 := And.intro und_104 <| And.intro agg_104 <| And.intro sz_104 <| And.intro by_104 <| And.intro zero_104 <| And.intro elem_104 <| And.intro arr_104 <| And.intro int_104 <| And.intro str_104 <| And.intro bool_104 <| And.intro ptr_104 <| And.intro zag_104 <| And.intro map_104 <| pl_104
theorem und_105 : (Program.underlying Try.prog 105).isSome = true := by kernel_rfl
theorem agg_105 : tyAgg Try.prog 105 = some false := by kernel_rfl
theorem sz_105 : tySize Try.prog 105 = some 1 := by kernel_rfl
theorem by_105 : tyBytes Try.prog 105 = some 8 := by kernel_rfl
theorem zero_105 : tyZero Try.prog 105 = some [.nilmp] := by kernel_rfl
theorem elem_105 : tyElem Try.prog 105 = none := by kernel_rfl
theorem arr_105 : tyArr Try.prog 105 = none := by kernel_rfl
theorem int_105 : tyInt Try.prog 105 = none := by kernel_rfl
theorem str_105 : tyStr Try.prog 105 = false := by kernel_rfl
theorem bool_105 : tyBool Try.prog 105 = false := by kernel_rfl
theorem ptr_105 : tyPtr Try.prog 105 = false := by kernel_rfl
theorem zag_105 : tyZag Try.prog 105 = false := by kernel_rfl
theorem map_105 : tyMap Try.prog 105 = some (201, 197) := by kernel_rfl
theorem pl_105 : tyPlaces Try.prog 105 = none := by kernel_rfl
def ty_105 := And.intro und_105 <| And.intro agg_105 <| And.intro sz_105 <| And.intro by_105 <| And.intro zero_105 <| And.intro elem_105 <| And.intro arr_105 <| And.intro int_105 <| And.intro str_105 <| And.intro bool_105 <| And.intro ptr_105 <| And.intro zag_105 <| And.intro map_105 <| pl_105
theorem und_106 : (Program.underlying Try.prog 106).isSome = true := by kernel_rfl
theorem agg_106 : tyAgg Try.prog 106 = some false := by kernel_rfl
theorem sz_106 : tySize Try.prog 106 = some 1 := by kernel_rfl
theorem by_106 : tyBytes Try.prog 106 = some 8 := by kernel_rfl
theorem zero_106 : tyZero Try.prog 106 = some [.nilmp] := by kernel_rfl
theorem elem_106 : tyElem Try.prog 106 = none := by kernel_rfl
theorem arr_106 : tyArr Try.prog 106 = none := by kernel_rfl
theorem int_106 : tyInt Try.prog 106 = none := by kernel_rfl
theorem str_106 : tyStr Try.prog 106 = false := by kernel_rfl
theorem bool_106 : tyBool Try.prog 106 = false := by kernel_rfl
theorem ptr_106 : tyPtr Try.prog 106 = false := by kernel_rfl
theorem zag_106 : tyZag Try.prog 106 = false := by kernel_rfl
theorem map_106 : tyMap Try.prog 106 = some (3, 4) := by kernel_rfl
theorem pl_106 : tyPlaces Try.prog 106 = none := by kernel_rfl
def ty_106 := And.intro und_106 <| And.intro agg_106 <| And.intro sz_106 <| And.intro by_106 <| And.intro zero_106 <| And.intro elem_106 <| And.intro arr_106 <| And.intro int_106 <| And.intro str_106 <| And.intro bool_106 <| And.intro ptr_106 <| And.intro zag_106 <| And.intro map_106 <| pl_106
theorem und_107 : (Program.underlying Try.prog 107).isSome = true := by kernel_rfl
theorem agg_107 : tyAgg Try.prog 107 = some false := by kernel_rfl
theorem sz_107 : tySize Try.prog 107 = some 1 := by kernel_rfl
theorem by_107 : tyBytes Try.prog 107 = some 8 := by kernel_rfl
theorem zero_107 : tyZero Try.prog 107 = some [.nilptr] := by kernel_rfl
theorem elem_107 : tyElem Try.prog 107 = none := by kernel_rfl
theorem arr_107 : tyArr Try.prog 107 = none := by kernel_rfl
theorem int_107 : tyInt Try.prog 107 = none := by kernel_rfl
theorem str_107 : tyStr Try.prog 107 = false := by kernel_rfl
theorem bool_107 : tyBool Try.prog 107 = false := by kernel_rfl
theorem ptr_107 : tyPtr Try.prog 107 = true := by kernel_rfl
theorem zag_107 : tyZag Try.prog 107 = false := by kernel_rfl
theorem map_107 : tyMap Try.prog 107 = none := by kernel_rfl
theorem pl_107 : tyPlaces Try.prog 107 = none := by kernel_rfl
def ty_107 := And.intro und_107 <| And.intro agg_107 <| And.intro sz_107 <| And.intro by_107 <| And.intro zero_107 <| And.intro elem_107 <| And.intro arr_107 <| And.intro int_107 <| And.intro str_107 <| And.intro bool_107 <| And.intro ptr_107 <| And.intro zag_107 <| And.intro map_107 <| pl_107
theorem und_109 : (Program.underlying Try.prog 109).isSome = true := by kernel_rfl
theorem agg_109 : tyAgg Try.prog 109 = some true := by kernel_rfl
theorem sz_109 : tySize Try.prog 109 = some 3 := by kernel_rfl
theorem by_109 : tyBytes Try.prog 109 = some 32 := by kernel_rfl
theorem zero_109 : tyZero Try.prog 109 = some [.c (.int .i64 0), .c (.int .i64 0), .c (.str [])] := by kernel_rfl
theorem elem_109 : tyElem Try.prog 109 = none := by kernel_rfl
theorem arr_109 : tyArr Try.prog 109 = none := by kernel_rfl
theorem int_109 : tyInt Try.prog 109 = none := by kernel_rfl
theorem str_109 : tyStr Try.prog 109 = false := by kernel_rfl
theorem bool_109 : tyBool Try.prog 109 = false := by kernel_rfl
theorem ptr_109 : tyPtr Try.prog 109 = false := by kernel_rfl
theorem zag_109 : tyZag Try.prog 109 = true := by kernel_rfl
theorem map_109 : tyMap Try.prog 109 = none := by kernel_rfl
theorem fd_109_0 : tyField Try.prog 109 0 = some (0, 3, 1) := by kernel_rfl
theorem fd_109_1 : tyField Try.prog 109 1 = some (1, 3, 1) := by kernel_rfl
theorem fd_109_2 : tyField Try.prog 109 2 = some (2, 9, 1) := by kernel_rfl
theorem pl_109 : tyPlaces Try.prog 109 = some [(0, 1), (1, 1), (2, 1)] := by kernel_rfl
def ty_109 := And.intro und_109 <| And.intro agg_109 <| And.intro sz_109 <| And.intro by_109 <| And.intro zero_109 <| And.intro elem_109 <| And.intro arr_109 <| And.intro int_109 <| And.intro str_109 <| And.intro bool_109 <| And.intro ptr_109 <| And.intro zag_109 <| And.intro map_109 <| And.intro fd_109_0 <| And.intro fd_109_1 <| And.intro fd_109_2 <| pl_109
theorem und_111 : (Program.underlying Try.prog 111).isSome = true := by kernel_rfl
theorem agg_111 : tyAgg Try.prog 111 = some true := by kernel_rfl
theorem sz_111 : tySize Try.prog 111 = some 5 := by kernel_rfl
theorem by_111 : tyBytes Try.prog 111 = some 48 := by kernel_rfl
theorem zero_111 : tyZero Try.prog 111 = some [.c (.int .i64 0), .c (.int .i64 0), .c (.str []), .c (.int .i64 0), .c (.int .i64 0)] := by kernel_rfl
theorem elem_111 : tyElem Try.prog 111 = none := by kernel_rfl
theorem arr_111 : tyArr Try.prog 111 = none := by kernel_rfl
theorem int_111 : tyInt Try.prog 111 = none := by kernel_rfl
theorem str_111 : tyStr Try.prog 111 = false := by kernel_rfl
theorem bool_111 : tyBool Try.prog 111 = false := by kernel_rfl
theorem ptr_111 : tyPtr Try.prog 111 = false := by kernel_rfl
theorem zag_111 : tyZag Try.prog 111 = true := by kernel_rfl
theorem map_111 : tyMap Try.prog 111 = none := by kernel_rfl
theorem fd_111_0 : tyField Try.prog 111 0 = some (0, 109, 3) := by kernel_rfl
theorem fd_111_1 : tyField Try.prog 111 1 = some (3, 3, 1) := by kernel_rfl
theorem fd_111_2 : tyField Try.prog 111 2 = some (4, 3, 1) := by kernel_rfl
theorem pl_111 : tyPlaces Try.prog 111 = some [(0, 3), (3, 1), (4, 1)] := by kernel_rfl
def ty_111 := And.intro und_111 <| And.intro agg_111 <| And.intro sz_111 <| And.intro by_111 <| And.intro zero_111 <| And.intro elem_111 <| And.intro arr_111 <| And.intro int_111 <| And.intro str_111 <| And.intro bool_111 <| And.intro ptr_111 <| And.intro zag_111 <| And.intro map_111 <| And.intro fd_111_0 <| And.intro fd_111_1 <| And.intro fd_111_2 <| pl_111
theorem und_113 : (Program.underlying Try.prog 113).isSome = true := by kernel_rfl
theorem agg_113 : tyAgg Try.prog 113 = some true := by kernel_rfl
theorem sz_113 : tySize Try.prog 113 = some 21 := by kernel_rfl
theorem by_113 : tyBytes Try.prog 113 = some 232 := by kernel_rfl
theorem zero_113 : tyZero Try.prog 113 = some [.nilsl, .nilmp, .nilmp, .nilmp, .nilmp, .nilmp, .nilmp, .nilsl, .nilptr, .c (.int .i64 0), .c (.int .i64 0), .c (.str []), .nilsl, .c (.int .i64 0), .c (.int .i64 0), .c (.str []), .c (.int .i64 0), .c (.int .i64 0), .c (.int .i64 0), .c (.int .i64 0), .c (.int .i64 0)] := by kernel_rfl
theorem elem_113 : tyElem Try.prog 113 = none := by kernel_rfl
theorem arr_113 : tyArr Try.prog 113 = none := by kernel_rfl
theorem int_113 : tyInt Try.prog 113 = none := by kernel_rfl
theorem str_113 : tyStr Try.prog 113 = false := by kernel_rfl
theorem bool_113 : tyBool Try.prog 113 = false := by kernel_rfl
theorem ptr_113 : tyPtr Try.prog 113 = false := by kernel_rfl
theorem zag_113 : tyZag Try.prog 113 = true := by kernel_rfl
theorem map_113 : tyMap Try.prog 113 = none := by kernel_rfl
theorem fd_113_0 : tyField Try.prog 113 0 = some (0, 53, 1) := by kernel_rfl
theorem fd_113_1 : tyField Try.prog 113 1 = some (1, 102, 1) := by kernel_rfl
theorem fd_113_2 : tyField Try.prog 113 2 = some (2, 103, 1) := by kernel_rfl
theorem fd_113_3 : tyField Try.prog 113 3 = some (3, 104, 1) := by kernel_rfl
theorem fd_113_4 : tyField Try.prog 113 4 = some (4, 105, 1) := by kernel_rfl
theorem fd_113_5 : tyField Try.prog 113 5 = some (5, 106, 1) := by kernel_rfl
theorem fd_113_6 : tyField Try.prog 113 6 = some (6, 106, 1) := by kernel_rfl
theorem fd_113_7 : tyField Try.prog 113 7 = some (7, 51, 1) := by kernel_rfl
theorem fd_113_8 : tyField Try.prog 113 8 = some (8, 107, 1) := by kernel_rfl
theorem fd_113_9 : tyField Try.prog 113 9 = some (9, 58, 4) := by kernel_rfl
theorem fd_113_10 : tyField Try.prog 113 10 = some (13, 111, 5) := by kernel_rfl
theorem fd_113_11 : tyField Try.prog 113 11 = some (18, 3, 1) := by kernel_rfl
theorem fd_113_12 : tyField Try.prog 113 12 = some (19, 3, 1) := by kernel_rfl
theorem fd_113_13 : tyField Try.prog 113 13 = some (20, 3, 1) := by kernel_rfl
theorem pl_113 : tyPlaces Try.prog 113 = some [(0, 1), (1, 1), (2, 1), (3, 1), (4, 1), (5, 1), (6, 1), (7, 1), (8, 1), (9, 4), (13, 5), (18, 1), (19, 1), (20, 1)] := by kernel_rfl
def ty_113 := And.intro und_113 <| And.intro agg_113 <| And.intro sz_113 <| And.intro by_113 <| And.intro zero_113 <| And.intro elem_113 <| And.intro arr_113 <| And.intro int_113 <| And.intro str_113 <| And.intro bool_113 <| And.intro ptr_113 <| And.intro zag_113 <| And.intro map_113 <| And.intro fd_113_0 <| And.intro fd_113_1 <| And.intro fd_113_2 <| And.intro fd_113_3 <| And.intro fd_113_4 <| And.intro fd_113_5 <| And.intro fd_113_6 <| And.intro fd_113_7 <| And.intro fd_113_8 <| And.intro fd_113_9 <| And.intro fd_113_10 <| And.intro fd_113_11 <| And.intro fd_113_12 <| And.intro fd_113_13 <| pl_113
theorem und_116 : (Program.underlying Try.prog 116).isSome = true := by kernel_rfl
theorem agg_116 : tyAgg Try.prog 116 = some true := by kernel_rfl
theorem sz_116 : tySize Try.prog 116 = some 11 := by kernel_rfl
theorem by_116 : tyBytes Try.prog 116 = some 112 := by kernel_rfl
theorem zero_116 : tyZero Try.prog 116 = some [.c (.int .i64 0), .c (.int .i64 0), .c (.int .i64 0), .c (.str []), .c (.int .i64 0), .c (.int .i64 0), .c (.str []), .c (.int .i64 0), .c (.int .i64 0), .c (.str []), .c (.bool false)] := by kernel_rfl
theorem elem_116 : tyElem Try.prog 116 = none := by kernel_rfl
theorem arr_116 : tyArr Try.prog 116 = none := by kernel_rfl
theorem int_116 : tyInt Try.prog 116 = none := by kernel_rfl
theorem str_116 : tyStr Try.prog 116 = false := by kernel_rfl
theorem bool_116 : tyBool Try.prog 116 = false := by kernel_rfl
theorem ptr_116 : tyPtr Try.prog 116 = false := by kernel_rfl
theorem zag_116 : tyZag Try.prog 116 = true := by kernel_rfl
theorem map_116 : tyMap Try.prog 116 = none := by kernel_rfl
theorem fd_116_0 : tyField Try.prog 116 0 = some (0, 3, 1) := by kernel_rfl
theorem fd_116_1 : tyField Try.prog 116 1 = some (1, 109, 3) := by kernel_rfl
theorem fd_116_2 : tyField Try.prog 116 2 = some (4, 109, 3) := by kernel_rfl
theorem fd_116_3 : tyField Try.prog 116 3 = some (7, 109, 3) := by kernel_rfl
theorem fd_116_4 : tyField Try.prog 116 4 = some (10, 4, 1) := by kernel_rfl
theorem pl_116 : tyPlaces Try.prog 116 = some [(0, 1), (1, 3), (4, 3), (7, 3), (10, 1)] := by kernel_rfl
def ty_116 := And.intro und_116 <| And.intro agg_116 <| And.intro sz_116 <| And.intro by_116 <| And.intro zero_116 <| And.intro elem_116 <| And.intro arr_116 <| And.intro int_116 <| And.intro str_116 <| And.intro bool_116 <| And.intro ptr_116 <| And.intro zag_116 <| And.intro map_116 <| And.intro fd_116_0 <| And.intro fd_116_1 <| And.intro fd_116_2 <| And.intro fd_116_3 <| And.intro fd_116_4 <| pl_116
theorem und_118 : (Program.underlying Try.prog 118).isSome = true := by kernel_rfl
theorem agg_118 : tyAgg Try.prog 118 = some false := by kernel_rfl
theorem sz_118 : tySize Try.prog 118 = some 1 := by kernel_rfl
theorem by_118 : tyBytes Try.prog 118 = some 8 := by kernel_rfl
theorem zero_118 : tyZero Try.prog 118 = some [.nilptr] := by kernel_rfl
theorem elem_118 : tyElem Try.prog 118 = none := by kernel_rfl
theorem arr_118 : tyArr Try.prog 118 = none := by kernel_rfl
theorem int_118 : tyInt Try.prog 118 = none := by kernel_rfl
theorem str_118 : tyStr Try.prog 118 = false := by kernel_rfl
theorem bool_118 : tyBool Try.prog 118 = false := by kernel_rfl
theorem ptr_118 : tyPtr Try.prog 118 = true := by kernel_rfl
theorem zag_118 : tyZag Try.prog 118 = false := by kernel_rfl
theorem map_118 : tyMap Try.prog 118 = none := by kernel_rfl
theorem pl_118 : tyPlaces Try.prog 118 = none := by kernel_rfl
def ty_118 := And.intro und_118 <| And.intro agg_118 <| And.intro sz_118 <| And.intro by_118 <| And.intro zero_118 <| And.intro elem_118 <| And.intro arr_118 <| And.intro int_118 <| And.intro str_118 <| And.intro bool_118 <| And.intro ptr_118 <| And.intro zag_118 <| And.intro map_118 <| pl_118
theorem und_120 : (Program.underlying Try.prog 120).isSome = true := by kernel_rfl
theorem agg_120 : tyAgg Try.prog 120 = some false := by kernel_rfl
theorem sz_120 : tySize Try.prog 120 = some 1 := by kernel_rfl
theorem by_120 : tyBytes Try.prog 120 = some 24 := by kernel_rfl
theorem zero_120 : tyZero Try.prog 120 = some [.nilsl] := by kernel_rfl
theorem elem_120 : tyElem Try.prog 120 = some 73 := by kernel_rfl
theorem arr_120 : tyArr Try.prog 120 = none := by kernel_rfl
theorem int_120 : tyInt Try.prog 120 = none := by kernel_rfl
theorem str_120 : tyStr Try.prog 120 = false := by kernel_rfl
theorem bool_120 : tyBool Try.prog 120 = false := by kernel_rfl
theorem ptr_120 : tyPtr Try.prog 120 = false := by kernel_rfl
theorem zag_120 : tyZag Try.prog 120 = false := by kernel_rfl
theorem map_120 : tyMap Try.prog 120 = none := by kernel_rfl
theorem pl_120 : tyPlaces Try.prog 120 = none := by kernel_rfl
def ty_120 := And.intro und_120 <| And.intro agg_120 <| And.intro sz_120 <| And.intro by_120 <| And.intro zero_120 <| And.intro elem_120 <| And.intro arr_120 <| And.intro int_120 <| And.intro str_120 <| And.intro bool_120 <| And.intro ptr_120 <| And.intro zag_120 <| And.intro map_120 <| pl_120
theorem und_122 : (Program.underlying Try.prog 122).isSome = true := by kernel_rfl
theorem agg_122 : tyAgg Try.prog 122 = some true := by kernel_rfl
theorem sz_122 : tySize Try.prog 122 = some 48 := by kernel_rfl
theorem by_122 : tyBytes Try.prog 122 = some 576 := by kernel_rfl
theorem zero_122 : tyZero Try.prog 122 = some [.nilsl, .nilmp, .nilmp, .nilmp, .nilmp, .nilmp, .nilmp, .nilsl, .nilptr, .c (.int .i64 0), .c (.int .i64 0), .c (.str []), .nilsl, .c (.int .i64 0), .c (.int .i64 0), .c (.str []), .c (.int .i64 0), .c (.int .i64 0), .c (.int .i64 0), .c (.int .i64 0), .c (.int .i64 0), .nilsl, .nilsl, .c (.int .i64 0), .c (.int .i64 0), .c (.int .i64 0), .c (.int .i64 0), .c (.int .i64 0), .c (.str []), .nilsl, .c (.int .i64 0), .c (.int .i64 0), .c (.int .i64 0), .c (.int .i64 0), .c (.str []), .c (.int .i64 0), .c (.int .i64 0), .c (.str []), .c (.int .i64 0), .c (.int .i64 0), .c (.str []), .c (.bool false), .nilptr, .nilsl, .nilsl, .nilsl, .c (.bool false), .c (.int .i64 0)] := by kernel_rfl
theorem elem_122 : tyElem Try.prog 122 = none := by kernel_rfl
theorem arr_122 : tyArr Try.prog 122 = none := by kernel_rfl
theorem int_122 : tyInt Try.prog 122 = none := by kernel_rfl
theorem str_122 : tyStr Try.prog 122 = false := by kernel_rfl
theorem bool_122 : tyBool Try.prog 122 = false := by kernel_rfl
theorem ptr_122 : tyPtr Try.prog 122 = false := by kernel_rfl
theorem zag_122 : tyZag Try.prog 122 = true := by kernel_rfl
theorem map_122 : tyMap Try.prog 122 = none := by kernel_rfl
theorem fd_122_0 : tyField Try.prog 122 0 = some (0, 113, 21) := by kernel_rfl
theorem fd_122_1 : tyField Try.prog 122 1 = some (21, 45, 5) := by kernel_rfl
theorem fd_122_2 : tyField Try.prog 122 2 = some (26, 3, 1) := by kernel_rfl
theorem fd_122_3 : tyField Try.prog 122 3 = some (27, 3, 1) := by kernel_rfl
theorem fd_122_4 : tyField Try.prog 122 4 = some (28, 61, 3) := by kernel_rfl
theorem fd_122_5 : tyField Try.prog 122 5 = some (31, 116, 11) := by kernel_rfl
theorem fd_122_6 : tyField Try.prog 122 6 = some (42, 118, 1) := by kernel_rfl
theorem fd_122_7 : tyField Try.prog 122 7 = some (43, 120, 1) := by kernel_rfl
theorem fd_122_8 : tyField Try.prog 122 8 = some (44, 120, 1) := by kernel_rfl
theorem fd_122_9 : tyField Try.prog 122 9 = some (45, 43, 1) := by kernel_rfl
theorem fd_122_10 : tyField Try.prog 122 10 = some (46, 4, 1) := by kernel_rfl
theorem fd_122_11 : tyField Try.prog 122 11 = some (47, 27, 1) := by kernel_rfl
theorem pl_122 : tyPlaces Try.prog 122 = some [(0, 21), (21, 5), (26, 1), (27, 1), (28, 3), (31, 11), (42, 1), (43, 1), (44, 1), (45, 1), (46, 1), (47, 1)] := by kernel_rfl
def ty_122 := And.intro und_122 <| And.intro agg_122 <| And.intro sz_122 <| And.intro by_122 <| And.intro zero_122 <| And.intro elem_122 <| And.intro arr_122 <| And.intro int_122 <| And.intro str_122 <| And.intro bool_122 <| And.intro ptr_122 <| And.intro zag_122 <| And.intro map_122 <| And.intro fd_122_0 <| And.intro fd_122_1 <| And.intro fd_122_2 <| And.intro fd_122_3 <| And.intro fd_122_4 <| And.intro fd_122_5 <| And.intro fd_122_6 <| And.intro fd_122_7 <| And.intro fd_122_8 <| And.intro fd_122_9 <| And.intro fd_122_10 <| And.intro fd_122_11 <| pl_122
theorem und_123 : (Program.underlying Try.prog 123).isSome = true := by kernel_rfl
theorem agg_123 : tyAgg Try.prog 123 = some false := by kernel_rfl
theorem sz_123 : tySize Try.prog 123 = some 1 := by kernel_rfl
theorem by_123 : tyBytes Try.prog 123 = some 8 := by kernel_rfl
theorem zero_123 : tyZero Try.prog 123 = some [.nilptr] := by kernel_rfl
theorem elem_123 : tyElem Try.prog 123 = none := by kernel_rfl
theorem arr_123 : tyArr Try.prog 123 = none := by kernel_rfl
theorem int_123 : tyInt Try.prog 123 = none := by kernel_rfl
theorem str_123 : tyStr Try.prog 123 = false := by kernel_rfl
theorem bool_123 : tyBool Try.prog 123 = false := by kernel_rfl
theorem ptr_123 : tyPtr Try.prog 123 = true := by kernel_rfl
theorem zag_123 : tyZag Try.prog 123 = false := by kernel_rfl
theorem map_123 : tyMap Try.prog 123 = none := by kernel_rfl
theorem pl_123 : tyPlaces Try.prog 123 = none := by kernel_rfl
def ty_123 := And.intro und_123 <| And.intro agg_123 <| And.intro sz_123 <| And.intro by_123 <| And.intro zero_123 <| And.intro elem_123 <| And.intro arr_123 <| And.intro int_123 <| And.intro str_123 <| And.intro bool_123 <| And.intro ptr_123 <| And.intro zag_123 <| And.intro map_123 <| pl_123
theorem und_127 : (Program.underlying Try.prog 127).isSome = true := by kernel_rfl
theorem agg_127 : tyAgg Try.prog 127 = some true := by kernel_rfl
theorem sz_127 : tySize Try.prog 127 = some 10 := by kernel_rfl
theorem by_127 : tyBytes Try.prog 127 = some 112 := by kernel_rfl
theorem zero_127 : tyZero Try.prog 127 = some [.nilsl, .nilsl, .c (.int .i64 0), .c (.int .i64 0), .c (.int .i64 0), .c (.int .i64 0), .c (.int .i64 0), .nilptr, .nilptr, .c (.bool false)] := by kernel_rfl
theorem elem_127 : tyElem Try.prog 127 = none := by kernel_rfl
theorem arr_127 : tyArr Try.prog 127 = none := by kernel_rfl
theorem int_127 : tyInt Try.prog 127 = none := by kernel_rfl
theorem str_127 : tyStr Try.prog 127 = false := by kernel_rfl
theorem bool_127 : tyBool Try.prog 127 = false := by kernel_rfl
theorem ptr_127 : tyPtr Try.prog 127 = false := by kernel_rfl
theorem zag_127 : tyZag Try.prog 127 = true := by kernel_rfl
theorem map_127 : tyMap Try.prog 127 = none := by kernel_rfl
theorem fd_127_0 : tyField Try.prog 127 0 = some (0, 45, 5) := by kernel_rfl
theorem fd_127_1 : tyField Try.prog 127 1 = some (5, 36, 2) := by kernel_rfl
theorem fd_127_2 : tyField Try.prog 127 2 = some (7, 123, 1) := by kernel_rfl
theorem fd_127_3 : tyField Try.prog 127 3 = some (8, 118, 1) := by kernel_rfl
theorem fd_127_4 : tyField Try.prog 127 4 = some (9, 4, 1) := by kernel_rfl
theorem pl_127 : tyPlaces Try.prog 127 = some [(0, 5), (5, 2), (7, 1), (8, 1), (9, 1)] := by kernel_rfl
def ty_127 := And.intro und_127 <| And.intro agg_127 <| And.intro sz_127 <| And.intro by_127 <| And.intro zero_127 <| And.intro elem_127 <| And.intro arr_127 <| And.intro int_127 <| And.intro str_127 <| And.intro bool_127 <| And.intro ptr_127 <| And.intro zag_127 <| And.intro map_127 <| And.intro fd_127_0 <| And.intro fd_127_1 <| And.intro fd_127_2 <| And.intro fd_127_3 <| And.intro fd_127_4 <| pl_127
theorem und_128 : (Program.underlying Try.prog 128).isSome = true := by kernel_rfl
theorem agg_128 : tyAgg Try.prog 128 = some false := by kernel_rfl
theorem sz_128 : tySize Try.prog 128 = some 1 := by kernel_rfl
theorem by_128 : tyBytes Try.prog 128 = some 4 := by kernel_rfl
theorem zero_128 : tyZero Try.prog 128 = some [.c (.int .u32 0)] := by kernel_rfl
theorem elem_128 : tyElem Try.prog 128 = none := by kernel_rfl
theorem arr_128 : tyArr Try.prog 128 = none := by kernel_rfl
theorem int_128 : tyInt Try.prog 128 = some .u32 := by kernel_rfl
theorem str_128 : tyStr Try.prog 128 = false := by kernel_rfl
theorem bool_128 : tyBool Try.prog 128 = false := by kernel_rfl
theorem ptr_128 : tyPtr Try.prog 128 = false := by kernel_rfl
theorem zag_128 : tyZag Try.prog 128 = false := by kernel_rfl
theorem map_128 : tyMap Try.prog 128 = none := by kernel_rfl
theorem pl_128 : tyPlaces Try.prog 128 = none := by kernel_rfl
def ty_128 := And.intro und_128 <| And.intro agg_128 <| And.intro sz_128 <| And.intro by_128 <| And.intro zero_128 <| And.intro elem_128 <| And.intro arr_128 <| And.intro int_128 <| And.intro str_128 <| And.intro bool_128 <| And.intro ptr_128 <| And.intro zag_128 <| And.intro map_128 <| pl_128
theorem und_141 : (Program.underlying Try.prog 141).isSome = true := by kernel_rfl
theorem agg_141 : tyAgg Try.prog 141 = some true := by kernel_rfl
theorem sz_141 : tySize Try.prog 141 = some 4 := by kernel_rfl
theorem by_141 : tyBytes Try.prog 141 = some 48 := by kernel_rfl
theorem zero_141 : tyZero Try.prog 141 = some [.nilsl, .c (.int .i64 0), .c (.int .i64 0), .c (.bool false)] := by kernel_rfl
theorem elem_141 : tyElem Try.prog 141 = none := by kernel_rfl
theorem arr_141 : tyArr Try.prog 141 = none := by kernel_rfl
theorem int_141 : tyInt Try.prog 141 = none := by kernel_rfl
theorem str_141 : tyStr Try.prog 141 = false := by kernel_rfl
theorem bool_141 : tyBool Try.prog 141 = false := by kernel_rfl
theorem ptr_141 : tyPtr Try.prog 141 = false := by kernel_rfl
theorem zag_141 : tyZag Try.prog 141 = true := by kernel_rfl
theorem map_141 : tyMap Try.prog 141 = none := by kernel_rfl
theorem fd_141_0 : tyField Try.prog 141 0 = some (0, 73, 1) := by kernel_rfl
theorem fd_141_1 : tyField Try.prog 141 1 = some (1, 3, 1) := by kernel_rfl
theorem fd_141_2 : tyField Try.prog 141 2 = some (2, 3, 1) := by kernel_rfl
theorem fd_141_3 : tyField Try.prog 141 3 = some (3, 4, 1) := by kernel_rfl
theorem pl_141 : tyPlaces Try.prog 141 = some [(0, 1), (1, 1), (2, 1), (3, 1)] := by kernel_rfl
def ty_141 := And.intro und_141 <| And.intro agg_141 <| And.intro sz_141 <| And.intro by_141 <| And.intro zero_141 <| And.intro elem_141 <| And.intro arr_141 <| And.intro int_141 <| And.intro str_141 <| And.intro bool_141 <| And.intro ptr_141 <| And.intro zag_141 <| And.intro map_141 <| And.intro fd_141_0 <| And.intro fd_141_1 <| And.intro fd_141_2 <| And.intro fd_141_3 <| pl_141
theorem und_143 : (Program.underlying Try.prog 143).isSome = true := by kernel_rfl
theorem agg_143 : tyAgg Try.prog 143 = some false := by kernel_rfl
theorem sz_143 : tySize Try.prog 143 = some 1 := by kernel_rfl
theorem by_143 : tyBytes Try.prog 143 = some 8 := by kernel_rfl
theorem zero_143 : tyZero Try.prog 143 = some [.nilmp] := by kernel_rfl
theorem elem_143 : tyElem Try.prog 143 = none := by kernel_rfl
theorem arr_143 : tyArr Try.prog 143 = none := by kernel_rfl
theorem int_143 : tyInt Try.prog 143 = none := by kernel_rfl
theorem str_143 : tyStr Try.prog 143 = false := by kernel_rfl
theorem bool_143 : tyBool Try.prog 143 = false := by kernel_rfl
theorem ptr_143 : tyPtr Try.prog 143 = false := by kernel_rfl
theorem zag_143 : tyZag Try.prog 143 = false := by kernel_rfl
theorem map_143 : tyMap Try.prog 143 = some (189, 189) := by kernel_rfl
theorem pl_143 : tyPlaces Try.prog 143 = none := by kernel_rfl
def ty_143 := And.intro und_143 <| And.intro agg_143 <| And.intro sz_143 <| And.intro by_143 <| And.intro zero_143 <| And.intro elem_143 <| And.intro arr_143 <| And.intro int_143 <| And.intro str_143 <| And.intro bool_143 <| And.intro ptr_143 <| And.intro zag_143 <| And.intro map_143 <| pl_143
theorem und_145 : (Program.underlying Try.prog 145).isSome = true := by kernel_rfl
theorem agg_145 : tyAgg Try.prog 145 = some true := by kernel_rfl
theorem sz_145 : tySize Try.prog 145 = some 9 := by kernel_rfl
theorem by_145 : tyBytes Try.prog 145 = some 104 := by kernel_rfl
theorem zero_145 : tyZero Try.prog 145 = some [.nilptr, .nilsl, .nilsl, .c (.int .i64 0), .c (.int .i64 0), .c (.int .i64 0), .c (.int .i64 0), .c (.int .i64 0), .nilmp] := by kernel_rfl
theorem elem_145 : tyElem Try.prog 145 = none := by kernel_rfl
theorem arr_145 : tyArr Try.prog 145 = none := by kernel_rfl
theorem int_145 : tyInt Try.prog 145 = none := by kernel_rfl
theorem str_145 : tyStr Try.prog 145 = false := by kernel_rfl
theorem bool_145 : tyBool Try.prog 145 = false := by kernel_rfl
theorem ptr_145 : tyPtr Try.prog 145 = false := by kernel_rfl
theorem zag_145 : tyZag Try.prog 145 = true := by kernel_rfl
theorem map_145 : tyMap Try.prog 145 = none := by kernel_rfl
theorem fd_145_0 : tyField Try.prog 145 0 = some (0, 107, 1) := by kernel_rfl
theorem fd_145_1 : tyField Try.prog 145 1 = some (1, 45, 5) := by kernel_rfl
theorem fd_145_2 : tyField Try.prog 145 2 = some (6, 36, 2) := by kernel_rfl
theorem fd_145_3 : tyField Try.prog 145 3 = some (8, 143, 1) := by kernel_rfl
theorem pl_145 : tyPlaces Try.prog 145 = some [(0, 1), (1, 5), (6, 2), (8, 1)] := by kernel_rfl
def ty_145 := And.intro und_145 <| And.intro agg_145 <| And.intro sz_145 <| And.intro by_145 <| And.intro zero_145 <| And.intro elem_145 <| And.intro arr_145 <| And.intro int_145 <| And.intro str_145 <| And.intro bool_145 <| And.intro ptr_145 <| And.intro zag_145 <| And.intro map_145 <| And.intro fd_145_0 <| And.intro fd_145_1 <| And.intro fd_145_2 <| And.intro fd_145_3 <| pl_145
theorem und_151 : (Program.underlying Try.prog 151).isSome = true := by kernel_rfl
theorem agg_151 : tyAgg Try.prog 151 = some false := by kernel_rfl
theorem sz_151 : tySize Try.prog 151 = some 1 := by kernel_rfl
theorem by_151 : tyBytes Try.prog 151 = some 8 := by kernel_rfl
theorem zero_151 : tyZero Try.prog 151 = some [.nilmp] := by kernel_rfl
theorem elem_151 : tyElem Try.prog 151 = none := by kernel_rfl
theorem arr_151 : tyArr Try.prog 151 = none := by kernel_rfl
theorem int_151 : tyInt Try.prog 151 = none := by kernel_rfl
theorem str_151 : tyStr Try.prog 151 = false := by kernel_rfl
theorem bool_151 : tyBool Try.prog 151 = false := by kernel_rfl
theorem ptr_151 : tyPtr Try.prog 151 = false := by kernel_rfl
theorem zag_151 : tyZag Try.prog 151 = false := by kernel_rfl
theorem map_151 : tyMap Try.prog 151 = some (9, 197) := by kernel_rfl
theorem pl_151 : tyPlaces Try.prog 151 = none := by kernel_rfl
def ty_151 := And.intro und_151 <| And.intro agg_151 <| And.intro sz_151 <| And.intro by_151 <| And.intro zero_151 <| And.intro elem_151 <| And.intro arr_151 <| And.intro int_151 <| And.intro str_151 <| And.intro bool_151 <| And.intro ptr_151 <| And.intro zag_151 <| And.intro map_151 <| pl_151
theorem und_153 : (Program.underlying Try.prog 153).isSome = true := by kernel_rfl
theorem agg_153 : tyAgg Try.prog 153 = some true := by kernel_rfl
theorem sz_153 : tySize Try.prog 153 = some 1 := by kernel_rfl
theorem by_153 : tyBytes Try.prog 153 = some 8 := by kernel_rfl
theorem zero_153 : tyZero Try.prog 153 = some [.nilmp] := by kernel_rfl
theorem elem_153 : tyElem Try.prog 153 = none := by kernel_rfl
theorem arr_153 : tyArr Try.prog 153 = none := by kernel_rfl
theorem int_153 : tyInt Try.prog 153 = none := by kernel_rfl
theorem str_153 : tyStr Try.prog 153 = false := by kernel_rfl
theorem bool_153 : tyBool Try.prog 153 = false := by kernel_rfl
theorem ptr_153 : tyPtr Try.prog 153 = false := by kernel_rfl
theorem zag_153 : tyZag Try.prog 153 = true := by kernel_rfl
theorem map_153 : tyMap Try.prog 153 = none := by kernel_rfl
theorem fd_153_0 : tyField Try.prog 153 0 = some (0, 151, 1) := by kernel_rfl
theorem pl_153 : tyPlaces Try.prog 153 = some [(0, 1)] := by kernel_rfl
def ty_153 := And.intro und_153 <| And.intro agg_153 <| And.intro sz_153 <| And.intro by_153 <| And.intro zero_153 <| And.intro elem_153 <| And.intro arr_153 <| And.intro int_153 <| And.intro str_153 <| And.intro bool_153 <| And.intro ptr_153 <| And.intro zag_153 <| And.intro map_153 <| And.intro fd_153_0 <| pl_153
theorem und_159 : (Program.underlying Try.prog 159).isSome = true := by kernel_rfl
theorem agg_159 : tyAgg Try.prog 159 = some false := by kernel_rfl
theorem sz_159 : tySize Try.prog 159 = some 1 := by kernel_rfl
theorem by_159 : tyBytes Try.prog 159 = some 8 := by kernel_rfl
theorem zero_159 : tyZero Try.prog 159 = some [.c (.int .i64 0)] := by kernel_rfl
theorem elem_159 : tyElem Try.prog 159 = none := by kernel_rfl
theorem arr_159 : tyArr Try.prog 159 = none := by kernel_rfl
theorem int_159 : tyInt Try.prog 159 = some .i64 := by kernel_rfl
theorem str_159 : tyStr Try.prog 159 = false := by kernel_rfl
theorem bool_159 : tyBool Try.prog 159 = false := by kernel_rfl
theorem ptr_159 : tyPtr Try.prog 159 = false := by kernel_rfl
theorem zag_159 : tyZag Try.prog 159 = false := by kernel_rfl
theorem map_159 : tyMap Try.prog 159 = none := by kernel_rfl
theorem pl_159 : tyPlaces Try.prog 159 = none := by kernel_rfl
def ty_159 := And.intro und_159 <| And.intro agg_159 <| And.intro sz_159 <| And.intro by_159 <| And.intro zero_159 <| And.intro elem_159 <| And.intro arr_159 <| And.intro int_159 <| And.intro str_159 <| And.intro bool_159 <| And.intro ptr_159 <| And.intro zag_159 <| And.intro map_159 <| pl_159
theorem und_164 : (Program.underlying Try.prog 164).isSome = true := by kernel_rfl
theorem agg_164 : tyAgg Try.prog 164 = some true := by kernel_rfl
theorem sz_164 : tySize Try.prog 164 = some 8 := by kernel_rfl
theorem by_164 : tyBytes Try.prog 164 = some 32 := by kernel_rfl
theorem zero_164 : tyZero Try.prog 164 = some [.c (.int .u32 0), .c (.int .u32 0), .c (.int .u32 0), .c (.int .u32 0), .c (.int .u32 0), .c (.int .u32 0), .c (.int .u32 0), .c (.int .u32 0)] := by kernel_rfl
theorem elem_164 : tyElem Try.prog 164 = none := by kernel_rfl
theorem arr_164 : tyArr Try.prog 164 = some (8, 128) := by kernel_rfl
theorem int_164 : tyInt Try.prog 164 = none := by kernel_rfl
theorem str_164 : tyStr Try.prog 164 = false := by kernel_rfl
theorem bool_164 : tyBool Try.prog 164 = false := by kernel_rfl
theorem ptr_164 : tyPtr Try.prog 164 = false := by kernel_rfl
theorem zag_164 : tyZag Try.prog 164 = true := by kernel_rfl
theorem map_164 : tyMap Try.prog 164 = none := by kernel_rfl
theorem pl_164 : tyPlaces Try.prog 164 = none := by kernel_rfl
def ty_164 := And.intro und_164 <| And.intro agg_164 <| And.intro sz_164 <| And.intro by_164 <| And.intro zero_164 <| And.intro elem_164 <| And.intro arr_164 <| And.intro int_164 <| And.intro str_164 <| And.intro bool_164 <| And.intro ptr_164 <| And.intro zag_164 <| And.intro map_164 <| pl_164
theorem und_166 : (Program.underlying Try.prog 166).isSome = true := by kernel_rfl
theorem agg_166 : tyAgg Try.prog 166 = some true := by kernel_rfl
theorem sz_166 : tySize Try.prog 166 = some 64 := by kernel_rfl
theorem by_166 : tyBytes Try.prog 166 = some 256 := by kernel_rfl
theorem zero_166 : tyZero Try.prog 166 = some (zrep 64 (.c (.int .u32 0))) := by kernel_rfl
theorem elem_166 : tyElem Try.prog 166 = none := by kernel_rfl
theorem arr_166 : tyArr Try.prog 166 = some (64, 128) := by kernel_rfl
theorem int_166 : tyInt Try.prog 166 = none := by kernel_rfl
theorem str_166 : tyStr Try.prog 166 = false := by kernel_rfl
theorem bool_166 : tyBool Try.prog 166 = false := by kernel_rfl
theorem ptr_166 : tyPtr Try.prog 166 = false := by kernel_rfl
theorem zag_166 : tyZag Try.prog 166 = true := by kernel_rfl
theorem map_166 : tyMap Try.prog 166 = none := by kernel_rfl
theorem pl_166 : tyPlaces Try.prog 166 = none := by kernel_rfl
def ty_166 := And.intro und_166 <| And.intro agg_166 <| And.intro sz_166 <| And.intro by_166 <| And.intro zero_166 <| And.intro elem_166 <| And.intro arr_166 <| And.intro int_166 <| And.intro str_166 <| And.intro bool_166 <| And.intro ptr_166 <| And.intro zag_166 <| And.intro map_166 <| pl_166
theorem und_169 : (Program.underlying Try.prog 169).isSome = true := by kernel_rfl
theorem agg_169 : tyAgg Try.prog 169 = some false := by kernel_rfl
theorem sz_169 : tySize Try.prog 169 = some 1 := by kernel_rfl
theorem by_169 : tyBytes Try.prog 169 = some 8 := by kernel_rfl
theorem zero_169 : tyZero Try.prog 169 = some [.nilptr] := by kernel_rfl
theorem elem_169 : tyElem Try.prog 169 = none := by kernel_rfl
theorem arr_169 : tyArr Try.prog 169 = none := by kernel_rfl
theorem int_169 : tyInt Try.prog 169 = none := by kernel_rfl
theorem str_169 : tyStr Try.prog 169 = false := by kernel_rfl
theorem bool_169 : tyBool Try.prog 169 = false := by kernel_rfl
theorem ptr_169 : tyPtr Try.prog 169 = true := by kernel_rfl
theorem zag_169 : tyZag Try.prog 169 = false := by kernel_rfl
theorem map_169 : tyMap Try.prog 169 = none := by kernel_rfl
theorem pl_169 : tyPlaces Try.prog 169 = none := by kernel_rfl
def ty_169 := And.intro und_169 <| And.intro agg_169 <| And.intro sz_169 <| And.intro by_169 <| And.intro zero_169 <| And.intro elem_169 <| And.intro arr_169 <| And.intro int_169 <| And.intro str_169 <| And.intro bool_169 <| And.intro ptr_169 <| And.intro zag_169 <| And.intro map_169 <| pl_169
theorem und_171 : (Program.underlying Try.prog 171).isSome = true := by kernel_rfl
theorem agg_171 : tyAgg Try.prog 171 = some false := by kernel_rfl
theorem sz_171 : tySize Try.prog 171 = some 1 := by kernel_rfl
theorem by_171 : tyBytes Try.prog 171 = some 24 := by kernel_rfl
theorem zero_171 : tyZero Try.prog 171 = some [.nilsl] := by kernel_rfl
theorem elem_171 : tyElem Try.prog 171 = some 128 := by kernel_rfl
theorem arr_171 : tyArr Try.prog 171 = none := by kernel_rfl
theorem int_171 : tyInt Try.prog 171 = none := by kernel_rfl
theorem str_171 : tyStr Try.prog 171 = false := by kernel_rfl
theorem bool_171 : tyBool Try.prog 171 = false := by kernel_rfl
theorem ptr_171 : tyPtr Try.prog 171 = false := by kernel_rfl
theorem zag_171 : tyZag Try.prog 171 = false := by kernel_rfl
theorem map_171 : tyMap Try.prog 171 = none := by kernel_rfl
theorem pl_171 : tyPlaces Try.prog 171 = none := by kernel_rfl
def ty_171 := And.intro und_171 <| And.intro agg_171 <| And.intro sz_171 <| And.intro by_171 <| And.intro zero_171 <| And.intro elem_171 <| And.intro arr_171 <| And.intro int_171 <| And.intro str_171 <| And.intro bool_171 <| And.intro ptr_171 <| And.intro zag_171 <| And.intro map_171 <| pl_171
theorem und_189 : (Program.underlying Try.prog 189).isSome = true := by kernel_rfl
theorem agg_189 : tyAgg Try.prog 189 = some true := by kernel_rfl
theorem sz_189 : tySize Try.prog 189 = some 7 := by kernel_rfl
theorem by_189 : tyBytes Try.prog 189 = some 72 := by kernel_rfl
theorem zero_189 : tyZero Try.prog 189 = some [.c (.int .i64 0), .c (.int .i64 0), .c (.int .i64 0), .c (.str []), .c (.int .i64 0), .c (.int .i64 0), .c (.str [])] := by kernel_rfl
theorem elem_189 : tyElem Try.prog 189 = none := by kernel_rfl
theorem arr_189 : tyArr Try.prog 189 = none := by kernel_rfl
theorem int_189 : tyInt Try.prog 189 = none := by kernel_rfl
theorem str_189 : tyStr Try.prog 189 = false := by kernel_rfl
theorem bool_189 : tyBool Try.prog 189 = false := by kernel_rfl
theorem ptr_189 : tyPtr Try.prog 189 = false := by kernel_rfl
theorem zag_189 : tyZag Try.prog 189 = true := by kernel_rfl
theorem map_189 : tyMap Try.prog 189 = none := by kernel_rfl
theorem fd_189_0 : tyField Try.prog 189 0 = some (0, 3, 1) := by kernel_rfl
theorem fd_189_1 : tyField Try.prog 189 1 = some (1, 3, 1) := by kernel_rfl
theorem fd_189_2 : tyField Try.prog 189 2 = some (2, 3, 1) := by kernel_rfl
theorem fd_189_3 : tyField Try.prog 189 3 = some (3, 9, 1) := by kernel_rfl
theorem fd_189_4 : tyField Try.prog 189 4 = some (4, 3, 1) := by kernel_rfl
theorem fd_189_5 : tyField Try.prog 189 5 = some (5, 3, 1) := by kernel_rfl
theorem fd_189_6 : tyField Try.prog 189 6 = some (6, 9, 1) := by kernel_rfl
theorem pl_189 : tyPlaces Try.prog 189 = some [(0, 1), (1, 1), (2, 1), (3, 1), (4, 1), (5, 1), (6, 1)] := by kernel_rfl
def ty_189 := And.intro und_189 <| And.intro agg_189 <| And.intro sz_189 <| And.intro by_189 <| And.intro zero_189 <| And.intro elem_189 <| And.intro arr_189 <| And.intro int_189 <| And.intro str_189 <| And.intro bool_189 <| And.intro ptr_189 <| And.intro zag_189 <| And.intro map_189 <| And.intro fd_189_0 <| And.intro fd_189_1 <| And.intro fd_189_2 <| And.intro fd_189_3 <| And.intro fd_189_4 <| And.intro fd_189_5 <| And.intro fd_189_6 <| pl_189
theorem und_197 : (Program.underlying Try.prog 197).isSome = true := by kernel_rfl
theorem agg_197 : tyAgg Try.prog 197 = some true := by kernel_rfl
theorem sz_197 : tySize Try.prog 197 = some 9 := by kernel_rfl
theorem by_197 : tyBytes Try.prog 197 = some 128 := by kernel_rfl
theorem zero_197 : tyZero Try.prog 197 = some [.c (.int .i64 0), .c (.int .i64 0), .c (.str []), .c (.int .i64 0), .c (.int .i64 0), .c (.str []), .nilsl, .nilsl, .c (.str [])] := by kernel_rfl
theorem elem_197 : tyElem Try.prog 197 = none := by kernel_rfl
theorem arr_197 : tyArr Try.prog 197 = none := by kernel_rfl
theorem int_197 : tyInt Try.prog 197 = none := by kernel_rfl
theorem str_197 : tyStr Try.prog 197 = false := by kernel_rfl
theorem bool_197 : tyBool Try.prog 197 = false := by kernel_rfl
theorem ptr_197 : tyPtr Try.prog 197 = false := by kernel_rfl
theorem zag_197 : tyZag Try.prog 197 = true := by kernel_rfl
theorem map_197 : tyMap Try.prog 197 = none := by kernel_rfl
theorem fd_197_0 : tyField Try.prog 197 0 = some (0, 3, 1) := by kernel_rfl
theorem fd_197_1 : tyField Try.prog 197 1 = some (1, 3, 1) := by kernel_rfl
theorem fd_197_2 : tyField Try.prog 197 2 = some (2, 9, 1) := by kernel_rfl
theorem fd_197_3 : tyField Try.prog 197 3 = some (3, 58, 4) := by kernel_rfl
theorem fd_197_4 : tyField Try.prog 197 4 = some (7, 53, 1) := by kernel_rfl
theorem fd_197_5 : tyField Try.prog 197 5 = some (8, 9, 1) := by kernel_rfl
theorem pl_197 : tyPlaces Try.prog 197 = some [(0, 1), (1, 1), (2, 1), (3, 4), (7, 1), (8, 1)] := by kernel_rfl
def ty_197 := And.intro und_197 <| And.intro agg_197 <| And.intro sz_197 <| And.intro by_197 <| And.intro zero_197 <| And.intro elem_197 <| And.intro arr_197 <| And.intro int_197 <| And.intro str_197 <| And.intro bool_197 <| And.intro ptr_197 <| And.intro zag_197 <| And.intro map_197 <| And.intro fd_197_0 <| And.intro fd_197_1 <| And.intro fd_197_2 <| And.intro fd_197_3 <| And.intro fd_197_4 <| And.intro fd_197_5 <| pl_197
theorem und_201 : (Program.underlying Try.prog 201).isSome = true := by kernel_rfl
theorem agg_201 : tyAgg Try.prog 201 = some true := by kernel_rfl
theorem sz_201 : tySize Try.prog 201 = some 2 := by kernel_rfl
theorem by_201 : tyBytes Try.prog 201 = some 16 := by kernel_rfl
theorem zero_201 : tyZero Try.prog 201 = some [.c (.int .i64 0), .c (.int .i64 0)] := by kernel_rfl
theorem elem_201 : tyElem Try.prog 201 = none := by kernel_rfl
theorem arr_201 : tyArr Try.prog 201 = none := by kernel_rfl
theorem int_201 : tyInt Try.prog 201 = none := by kernel_rfl
theorem str_201 : tyStr Try.prog 201 = false := by kernel_rfl
theorem bool_201 : tyBool Try.prog 201 = false := by kernel_rfl
theorem ptr_201 : tyPtr Try.prog 201 = false := by kernel_rfl
theorem zag_201 : tyZag Try.prog 201 = true := by kernel_rfl
theorem map_201 : tyMap Try.prog 201 = none := by kernel_rfl
theorem fd_201_0 : tyField Try.prog 201 0 = some (0, 3, 1) := by kernel_rfl
theorem fd_201_1 : tyField Try.prog 201 1 = some (1, 3, 1) := by kernel_rfl
theorem pl_201 : tyPlaces Try.prog 201 = some [(0, 1), (1, 1)] := by kernel_rfl
def ty_201 := And.intro und_201 <| And.intro agg_201 <| And.intro sz_201 <| And.intro by_201 <| And.intro zero_201 <| And.intro elem_201 <| And.intro arr_201 <| And.intro int_201 <| And.intro str_201 <| And.intro bool_201 <| And.intro ptr_201 <| And.intro zag_201 <| And.intro map_201 <| And.intro fd_201_0 <| And.intro fd_201_1 <| pl_201
theorem nt_3 : Try.f3.ntmps = 16 := by kernel_rfl
theorem rs_3 : Try.f3.results.toList = [.tmp 2] := by kernel_rfl
theorem nt_4 : Try.f4.ntmps = 18 := by kernel_rfl
theorem rs_4 : Try.f4.results.toList = [.tmp 0] := by kernel_rfl
theorem nt_5 : Try.f5.ntmps = 117 := by kernel_rfl
theorem rs_5 : Try.f5.results.toList = [.tmp 2, .tmp 3] := by kernel_rfl
theorem nt_6 : Try.f6.ntmps = 62 := by kernel_rfl
theorem rs_6 : Try.f6.results.toList = [.tmp 2] := by kernel_rfl
theorem nt_7 : Try.f7.ntmps = 26 := by kernel_rfl
theorem rs_7 : Try.f7.results.toList = [.tmp 2] := by kernel_rfl
theorem nt_8 : Try.f8.ntmps = 62 := by kernel_rfl
theorem rs_8 : Try.f8.results.toList = [.tmp 2] := by kernel_rfl
theorem nt_9 : Try.f9.ntmps = 8 := by kernel_rfl
theorem rs_9 : Try.f9.results.toList = [.tmp 2] := by kernel_rfl
theorem nt_10 : Try.f10.ntmps = 3 := by kernel_rfl
theorem rs_10 : Try.f10.results.toList = [.cell 0 58] := by kernel_rfl
theorem nt_11 : Try.f11.ntmps = 20 := by kernel_rfl
theorem rs_11 : Try.f11.results.toList = [.cell 2 61] := by kernel_rfl
theorem nt_12 : Try.f12.ntmps = 13 := by kernel_rfl
theorem rs_12 : Try.f12.results.toList = [.tmp 2, .tmp 3] := by kernel_rfl
theorem nt_13 : Try.f13.ntmps = 20 := by kernel_rfl
theorem rs_13 : Try.f13.results.toList = [.cell 2 61] := by kernel_rfl
theorem nt_14 : Try.f14.ntmps = 90 := by kernel_rfl
theorem rs_14 : Try.f14.results.toList = [] := by kernel_rfl
theorem nt_15 : Try.f15.ntmps = 48 := by kernel_rfl
theorem rs_15 : Try.f15.results.toList = [.tmp 6] := by kernel_rfl
theorem nt_18 : Try.f18.ntmps = 9 := by kernel_rfl
theorem rs_18 : Try.f18.results.toList = [.tmp 2] := by kernel_rfl
theorem nt_19 : Try.f19.ntmps = 38 := by kernel_rfl
theorem rs_19 : Try.f19.results.toList = [.cell 4 61, .tmp 5] := by kernel_rfl
theorem nt_20 : Try.f20.ntmps = 44 := by kernel_rfl
theorem rs_20 : Try.f20.results.toList = [.tmp 2] := by kernel_rfl
theorem nt_21 : Try.f21.ntmps = 15 := by kernel_rfl
theorem rs_21 : Try.f21.results.toList = [.tmp 2] := by kernel_rfl
theorem nt_22 : Try.f22.ntmps = 9 := by kernel_rfl
theorem rs_22 : Try.f22.results.toList = [.tmp 2] := by kernel_rfl
theorem nt_23 : Try.f23.ntmps = 14 := by kernel_rfl
theorem rs_23 : Try.f23.results.toList = [.tmp 4] := by kernel_rfl
theorem nt_24 : Try.f24.ntmps = 63 := by kernel_rfl
theorem rs_24 : Try.f24.results.toList = [.tmp 8, .tmp 9] := by kernel_rfl
theorem nt_25 : Try.f25.ntmps = 34 := by kernel_rfl
theorem rs_25 : Try.f25.results.toList = [.tmp 6, .tmp 7] := by kernel_rfl
theorem nt_33 : Try.f33.ntmps = 21 := by kernel_rfl
theorem rs_33 : Try.f33.results.toList = [.tmp 4] := by kernel_rfl
theorem nt_34 : Try.f34.ntmps = 6 := by kernel_rfl
theorem rs_34 : Try.f34.results.toList = [.tmp 2] := by kernel_rfl
theorem nt_35 : Try.f35.ntmps = 9 := by kernel_rfl
theorem rs_35 : Try.f35.results.toList = [.tmp 4] := by kernel_rfl
theorem nt_37 : Try.f37.ntmps = 8 := by kernel_rfl
theorem rs_37 : Try.f37.results.toList = [.tmp 2] := by kernel_rfl
theorem nt_38 : Try.f38.ntmps = 10 := by kernel_rfl
theorem rs_38 : Try.f38.results.toList = [.cell 0 113] := by kernel_rfl
theorem nt_39 : Try.f39.ntmps = 4 := by kernel_rfl
theorem rs_39 : Try.f39.results.toList = [.cell 0 116] := by kernel_rfl
theorem nt_40 : Try.f40.ntmps = 8 := by kernel_rfl
theorem rs_40 : Try.f40.results.toList = [.tmp 2] := by kernel_rfl
theorem nt_41 : Try.f41.ntmps = 26 := by kernel_rfl
theorem rs_41 : Try.f41.results.toList = [] := by kernel_rfl
theorem nt_42 : Try.f42.ntmps = 50 := by kernel_rfl
theorem rs_42 : Try.f42.results.toList = [.tmp 4, .tmp 5] := by kernel_rfl
theorem nt_48 : Try.f48.ntmps = 16 := by kernel_rfl
theorem rs_48 : Try.f48.results.toList = [.tmp 4] := by kernel_rfl
theorem nt_49 : Try.f49.ntmps = 20 := by kernel_rfl
theorem rs_49 : Try.f49.results.toList = [.tmp 6] := by kernel_rfl
theorem nt_50 : Try.f50.ntmps = 19 := by kernel_rfl
theorem rs_50 : Try.f50.results.toList = [.tmp 2] := by kernel_rfl
theorem nt_51 : Try.f51.ntmps = 19 := by kernel_rfl
theorem rs_51 : Try.f51.results.toList = [.tmp 4] := by kernel_rfl
theorem nt_53 : Try.f53.ntmps = 25 := by kernel_rfl
theorem rs_53 : Try.f53.results.toList = [.tmp 2] := by kernel_rfl
theorem nt_54 : Try.f54.ntmps = 4 := by kernel_rfl
theorem rs_54 : Try.f54.results.toList = [.tmp 0] := by kernel_rfl
theorem nt_55 : Try.f55.ntmps = 10 := by kernel_rfl
theorem rs_55 : Try.f55.results.toList = [.cell 2 109] := by kernel_rfl
theorem nt_56 : Try.f56.ntmps = 17 := by kernel_rfl
theorem rs_56 : Try.f56.results.toList = [.tmp 8] := by kernel_rfl
theorem nt_59 : Try.f59.ntmps = 6 := by kernel_rfl
theorem rs_59 : Try.f59.results.toList = [.tmp 2] := by kernel_rfl
theorem nt_61 : Try.f61.ntmps = 30 := by kernel_rfl
theorem rs_61 : Try.f61.results.toList = [.tmp 6] := by kernel_rfl
theorem nt_62 : Try.f62.ntmps = 7 := by kernel_rfl
theorem rs_62 : Try.f62.results.toList = [.tmp 2] := by kernel_rfl
theorem nt_64 : Try.f64.ntmps = 6 := by kernel_rfl
theorem rs_64 : Try.f64.results.toList = [.tmp 2] := by kernel_rfl
theorem nt_65 : Try.f65.ntmps = 21 := by kernel_rfl
theorem rs_65 : Try.f65.results.toList = [.tmp 2] := by kernel_rfl
theorem nt_66 : Try.f66.ntmps = 5 := by kernel_rfl
theorem rs_66 : Try.f66.results.toList = [.tmp 2] := by kernel_rfl
theorem nt_68 : Try.f68.ntmps = 2 := by kernel_rfl
theorem rs_68 : Try.f68.results.toList = [.cell 0 164] := by kernel_rfl
theorem nt_69 : Try.f69.ntmps = 2 := by kernel_rfl
theorem rs_69 : Try.f69.results.toList = [.cell 0 166] := by kernel_rfl
theorem nt_70 : Try.f70.ntmps = 19 := by kernel_rfl
theorem rs_70 : Try.f70.results.toList = [.tmp 2] := by kernel_rfl
theorem nt_71 : Try.f71.ntmps = 119 := by kernel_rfl
theorem rs_71 : Try.f71.results.toList = [.cell 6 164] := by kernel_rfl
theorem nt_72 : Try.f72.ntmps = 32 := by kernel_rfl
theorem rs_72 : Try.f72.results.toList = [.tmp 2] := by kernel_rfl
theorem nt_73 : Try.f73.ntmps = 36 := by kernel_rfl
theorem rs_73 : Try.f73.results.toList = [.tmp 2] := by kernel_rfl
theorem nt_74 : Try.f74.ntmps = 64 := by kernel_rfl
theorem rs_74 : Try.f74.results.toList = [.cell 2 166] := by kernel_rfl
theorem nt_75 : Try.f75.ntmps = 9 := by kernel_rfl
theorem rs_75 : Try.f75.results.toList = [.tmp 4] := by kernel_rfl
theorem nt_77 : Try.f77.ntmps = 33 := by kernel_rfl
theorem rs_77 : Try.f77.results.toList = [.tmp 4] := by kernel_rfl
theorem nt_78 : Try.f78.ntmps = 17 := by kernel_rfl
theorem rs_78 : Try.f78.results.toList = [.tmp 4] := by kernel_rfl
theorem mixed : Try.prog.follows .mixedOrders = true := by kernel_rfl


/-- A number's octets. -/
def putB (n : Int) (size : Int) : List UInt8 :=
  (List.range (min (max size 0) 8).toNat).map fun (i : Nat) => UInt8.ofNat ((IntKind.u64.wrap n).toNat / 256 ^ ((min (max size 0) 8).toNat - 1 - i) % 256)

def putC : Contract := fun args objs => match args, objs with
  | [.c (.int .i64 n), .c (.int .i64 size)], [] => if 0 ≤ size ∧ size ≤ 8 then some ⟨[.fresh 1 (bytes (putB n size))], []⟩ else none
  | _, _ => none

theorem bytes_length (l : List UInt8) : (bytes l).length = l.length := by simp [bytes]
theorem bytes_append (a b : List UInt8) : bytes (a ++ b) = bytes a ++ bytes b := by simp [bytes]
theorem rowsOK_bytes (l : List UInt8) : rowsOK 1 (bytes l) := by
  intro r hr
  simp only [bytes, List.mem_map] at hr
  obtain ⟨b, _, rfl⟩ := hr
  rfl
theorem bytes_app (a b : List UInt8) : bytes a ++ bytes b = bytes (a ++ b) := (bytes_append a b).symm

structure WS where
  b : List UInt8
  e : Int
  deriving DecidableEq
variable {Γ : FuncId → Contract}
theorem putB_length (n size : Int) : (putB n size).length = (min (max size 0) 8).toNat := by simp [putB]

end Go.Proofs.Ytofkehedjcinhaa.AM
