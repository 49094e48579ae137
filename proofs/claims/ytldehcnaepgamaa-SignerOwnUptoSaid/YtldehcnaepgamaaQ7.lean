/-
  Q7: Ty Pk1 Pk2 Put Pk3.
-/
import Derived.Test.YtldehcnaepgamaaQ6
import Derived.Test.YtldehcnaepgamaaProg
import Derived.KernelRfl
import Derived.RangeFuncNested
import Derived.RangeFuncBound
import Derived.RangeFuncCalls
import Derived.RangeFuncLeaves
import Derived.RangeFuncBox
import Derived.Shelf.Abstract
import Derived.Shelf.RegionOpen
import Derived.WalkKit
import Derived.OwnWalkIn
import Derived.TacticsInMore
import Derived.LoopNIn
import Derived.LoopIn
set_option linter.defProp false
set_option linter.unusedVariables false
set_option linter.unusedSimpArgs false
namespace Go.Proofs.Ytldehcnaepgamaa.AM
open Go

theorem und_3 : (Program.underlying Try.prog 3).isSome = true := by kernel_rfl
theorem agg_3 : tyAgg Try.prog 3 = some false := by kernel_rfl
theorem sz_3 : tySize Try.prog 3 = some 1 := by kernel_rfl
theorem by_3 : tyBytes Try.prog 3 = some 8 := by kernel_rfl
theorem zero_3 : tyZero Try.prog 3 = some [.c (.int .i64 0)] := by kernel_rfl
theorem elem_3 : tyElem Try.prog 3 = none := by kernel_rfl
theorem arr_3 : tyArr Try.prog 3 = none := by kernel_rfl
theorem int_3 : tyInt Try.prog 3 = some .i64 := by kernel_rfl
theorem str_3 : tyStr Try.prog 3 = false := by kernel_rfl
theorem bool_3 : tyBool Try.prog 3 = false := by kernel_rfl
theorem ptr_3 : tyPtr Try.prog 3 = false := by kernel_rfl
theorem zag_3 : tyZag Try.prog 3 = false := by kernel_rfl
theorem map_3 : tyMap Try.prog 3 = none := by kernel_rfl
theorem pl_3 : tyPlaces Try.prog 3 = none := by kernel_rfl
def ty_3 := And.intro und_3 <| And.intro agg_3 <| And.intro sz_3 <| And.intro by_3 <| And.intro zero_3 <| And.intro elem_3 <| And.intro arr_3 <| And.intro int_3 <| And.intro str_3 <| And.intro bool_3 <| And.intro ptr_3 <| And.intro zag_3 <| And.intro map_3 <| pl_3
theorem und_4 : (Program.underlying Try.prog 4).isSome = true := by kernel_rfl
theorem agg_4 : tyAgg Try.prog 4 = some false := by kernel_rfl
theorem sz_4 : tySize Try.prog 4 = some 1 := by kernel_rfl
theorem by_4 : tyBytes Try.prog 4 = some 1 := by kernel_rfl
theorem zero_4 : tyZero Try.prog 4 = some [.c (.bool false)] := by kernel_rfl
theorem elem_4 : tyElem Try.prog 4 = none := by kernel_rfl
theorem arr_4 : tyArr Try.prog 4 = none := by kernel_rfl
theorem int_4 : tyInt Try.prog 4 = none := by kernel_rfl
theorem str_4 : tyStr Try.prog 4 = false := by kernel_rfl
theorem bool_4 : tyBool Try.prog 4 = true := by kernel_rfl
theorem ptr_4 : tyPtr Try.prog 4 = false := by kernel_rfl
theorem zag_4 : tyZag Try.prog 4 = false := by kernel_rfl
theorem map_4 : tyMap Try.prog 4 = none := by kernel_rfl
theorem pl_4 : tyPlaces Try.prog 4 = none := by kernel_rfl
def ty_4 := And.intro und_4 <| And.intro agg_4 <| And.intro sz_4 <| And.intro by_4 <| And.intro zero_4 <| And.intro elem_4 <| And.intro arr_4 <| And.intro int_4 <| And.intro str_4 <| And.intro bool_4 <| And.intro ptr_4 <| And.intro zag_4 <| And.intro map_4 <| pl_4
theorem und_5 : (Program.underlying Try.prog 5).isSome = true := by kernel_rfl
theorem agg_5 : tyAgg Try.prog 5 = some false := by kernel_rfl
theorem sz_5 : tySize Try.prog 5 = some 1 := by kernel_rfl
theorem by_5 : tyBytes Try.prog 5 = some 1 := by kernel_rfl
theorem zero_5 : tyZero Try.prog 5 = some [.c (.int .u8 0)] := by kernel_rfl
theorem elem_5 : tyElem Try.prog 5 = none := by kernel_rfl
theorem arr_5 : tyArr Try.prog 5 = none := by kernel_rfl
theorem int_5 : tyInt Try.prog 5 = some .u8 := by kernel_rfl
theorem str_5 : tyStr Try.prog 5 = false := by kernel_rfl
theorem bool_5 : tyBool Try.prog 5 = false := by kernel_rfl
theorem ptr_5 : tyPtr Try.prog 5 = false := by kernel_rfl
theorem zag_5 : tyZag Try.prog 5 = false := by kernel_rfl
theorem map_5 : tyMap Try.prog 5 = none := by kernel_rfl
theorem pl_5 : tyPlaces Try.prog 5 = none := by kernel_rfl
def ty_5 := And.intro und_5 <| And.intro agg_5 <| And.intro sz_5 <| And.intro by_5 <| And.intro zero_5 <| And.intro elem_5 <| And.intro arr_5 <| And.intro int_5 <| And.intro str_5 <| And.intro bool_5 <| And.intro ptr_5 <| And.intro zag_5 <| And.intro map_5 <| pl_5
theorem und_9 : (Program.underlying Try.prog 9).isSome = true := by kernel_rfl
theorem agg_9 : tyAgg Try.prog 9 = some false := by kernel_rfl
theorem sz_9 : tySize Try.prog 9 = some 1 := by kernel_rfl
theorem by_9 : tyBytes Try.prog 9 = some 16 := by kernel_rfl
theorem zero_9 : tyZero Try.prog 9 = some [.c (.str [])] := by kernel_rfl
theorem elem_9 : tyElem Try.prog 9 = none := by kernel_rfl
theorem arr_9 : tyArr Try.prog 9 = none := by kernel_rfl
theorem int_9 : tyInt Try.prog 9 = none := by kernel_rfl
theorem str_9 : tyStr Try.prog 9 = true := by kernel_rfl
theorem bool_9 : tyBool Try.prog 9 = false := by kernel_rfl
theorem ptr_9 : tyPtr Try.prog 9 = false := by kernel_rfl
theorem zag_9 : tyZag Try.prog 9 = false := by kernel_rfl
theorem map_9 : tyMap Try.prog 9 = none := by kernel_rfl
theorem pl_9 : tyPlaces Try.prog 9 = none := by kernel_rfl
def ty_9 := And.intro und_9 <| And.intro agg_9 <| And.intro sz_9 <| And.intro by_9 <| And.intro zero_9 <| And.intro elem_9 <| And.intro arr_9 <| And.intro int_9 <| And.intro str_9 <| And.intro bool_9 <| And.intro ptr_9 <| And.intro zag_9 <| And.intro map_9 <| pl_9
theorem und_22 : (Program.underlying Try.prog 22).isSome = true := by kernel_rfl
theorem agg_22 : tyAgg Try.prog 22 = some false := by kernel_rfl
theorem sz_22 : tySize Try.prog 22 = some 1 := by kernel_rfl
theorem by_22 : tyBytes Try.prog 22 = some 24 := by kernel_rfl
theorem zero_22 : tyZero Try.prog 22 = some [.nilsl] := by kernel_rfl
theorem elem_22 : tyElem Try.prog 22 = some 9 := by kernel_rfl
theorem arr_22 : tyArr Try.prog 22 = none := by kernel_rfl
theorem int_22 : tyInt Try.prog 22 = none := by kernel_rfl
theorem str_22 : tyStr Try.prog 22 = false := by kernel_rfl
theorem bool_22 : tyBool Try.prog 22 = false := by kernel_rfl
theorem ptr_22 : tyPtr Try.prog 22 = false := by kernel_rfl
theorem zag_22 : tyZag Try.prog 22 = false := by kernel_rfl
theorem map_22 : tyMap Try.prog 22 = none := by kernel_rfl
theorem pl_22 : tyPlaces Try.prog 22 = none := by kernel_rfl
def ty_22 := And.intro und_22 <| And.intro agg_22 <| And.intro sz_22 <| And.intro by_22 <| And.intro zero_22 <| And.intro elem_22 <| And.intro arr_22 <| And.intro int_22 <| And.intro str_22 <| And.intro bool_22 <| And.intro ptr_22 <| And.intro zag_22 <| And.intro map_22 <| pl_22
theorem und_24 : (Program.underlying Try.prog 24).isSome = true := by kernel_rfl
theorem agg_24 : tyAgg Try.prog 24 = some true := by kernel_rfl
theorem sz_24 : tySize Try.prog 24 = some 3 := by kernel_rfl
theorem by_24 : tyBytes Try.prog 24 = some 48 := by kernel_rfl
theorem zero_24 : tyZero Try.prog 24 = some [.c (.str []), .nilsl, .c (.int .i64 0)] := by kernel_rfl
theorem elem_24 : tyElem Try.prog 24 = none := by kernel_rfl
theorem arr_24 : tyArr Try.prog 24 = none := by kernel_rfl
theorem int_24 : tyInt Try.prog 24 = none := by kernel_rfl
theorem str_24 : tyStr Try.prog 24 = false := by kernel_rfl
theorem bool_24 : tyBool Try.prog 24 = false := by kernel_rfl
theorem ptr_24 : tyPtr Try.prog 24 = false := by kernel_rfl
theorem zag_24 : tyZag Try.prog 24 = true := by kernel_rfl
theorem map_24 : tyMap Try.prog 24 = none := by kernel_rfl
theorem fd_24_0 : tyField Try.prog 24 0 = some (0, 9, 1) := by kernel_rfl
theorem fd_24_1 : tyField Try.prog 24 1 = some (1, 22, 1) := by kernel_rfl
theorem fd_24_2 : tyField Try.prog 24 2 = some (2, 3, 1) := by kernel_rfl
theorem pl_24 : tyPlaces Try.prog 24 = some [(0, 1), (1, 1), (2, 1)] := by kernel_rfl
def ty_24 := And.intro und_24 <| And.intro agg_24 <| And.intro sz_24 <| And.intro by_24 <| And.intro zero_24 <| And.intro elem_24 <| And.intro arr_24 <| And.intro int_24 <| And.intro str_24 <| And.intro bool_24 <| And.intro ptr_24 <| And.intro zag_24 <| And.intro map_24 <| And.intro fd_24_0 <| And.intro fd_24_1 <| And.intro fd_24_2 <| pl_24
theorem und_25 : (Program.underlying Try.prog 25).isSome = true := by kernel_rfl
theorem agg_25 : tyAgg Try.prog 25 = some false := by kernel_rfl
theorem sz_25 : tySize Try.prog 25 = some 1 := by kernel_rfl
theorem by_25 : tyBytes Try.prog 25 = some 24 := by kernel_rfl
theorem zero_25 : tyZero Try.prog 25 = some [.nilsl] := by kernel_rfl
theorem elem_25 : tyElem Try.prog 25 = some 5 := by kernel_rfl
theorem arr_25 : tyArr Try.prog 25 = none := by kernel_rfl
theorem int_25 : tyInt Try.prog 25 = none := by kernel_rfl
theorem str_25 : tyStr Try.prog 25 = false := by kernel_rfl
theorem bool_25 : tyBool Try.prog 25 = false := by kernel_rfl
theorem ptr_25 : tyPtr Try.prog 25 = false := by kernel_rfl
theorem zag_25 : tyZag Try.prog 25 = false := by kernel_rfl
theorem map_25 : tyMap Try.prog 25 = none := by kernel_rfl
theorem pl_25 : tyPlaces Try.prog 25 = none := by kernel_rfl
def ty_25 := And.intro und_25 <| And.intro agg_25 <| And.intro sz_25 <| And.intro by_25 <| And.intro zero_25 <| And.intro elem_25 <| And.intro arr_25 <| And.intro int_25 <| And.intro str_25 <| And.intro bool_25 <| And.intro ptr_25 <| And.intro zag_25 <| And.intro map_25 <| pl_25
theorem und_27 : (Program.underlying Try.prog 27).isSome = true := by kernel_rfl
theorem agg_27 : tyAgg Try.prog 27 = some false := by kernel_rfl
theorem sz_27 : tySize Try.prog 27 = some 1 := by kernel_rfl
theorem by_27 : tyBytes Try.prog 27 = some 8 := by kernel_rfl
theorem zero_27 : tyZero Try.prog 27 = some [.c (.int .i64 0)] := by kernel_rfl
theorem elem_27 : tyElem Try.prog 27 = none := by kernel_rfl
theorem arr_27 : tyArr Try.prog 27 = none := by kernel_rfl
theorem int_27 : tyInt Try.prog 27 = some .i64 := by kernel_rfl
theorem str_27 : tyStr Try.prog 27 = false := by kernel_rfl
theorem bool_27 : tyBool Try.prog 27 = false := by kernel_rfl
theorem ptr_27 : tyPtr Try.prog 27 = false := by kernel_rfl
theorem zag_27 : tyZag Try.prog 27 = false := by kernel_rfl
theorem map_27 : tyMap Try.prog 27 = none := by kernel_rfl
theorem pl_27 : tyPlaces Try.prog 27 = none := by kernel_rfl
def ty_27 := And.intro und_27 <| And.intro agg_27 <| And.intro sz_27 <| And.intro by_27 <| And.intro zero_27 <| And.intro elem_27 <| And.intro arr_27 <| And.intro int_27 <| And.intro str_27 <| And.intro bool_27 <| And.intro ptr_27 <| And.intro zag_27 <| And.intro map_27 <| pl_27
theorem und_43 : (Program.underlying Try.prog 43).isSome = true := by kernel_rfl
theorem agg_43 : tyAgg Try.prog 43 = some false := by kernel_rfl
theorem sz_43 : tySize Try.prog 43 = some 1 := by kernel_rfl
theorem by_43 : tyBytes Try.prog 43 = some 24 := by kernel_rfl
theorem zero_43 : tyZero Try.prog 43 = some [.nilsl] := by kernel_rfl
theorem elem_43 : tyElem Try.prog 43 = some 25 := by kernel_rfl
theorem arr_43 : tyArr Try.prog 43 = none := by kernel_rfl
theorem int_43 : tyInt Try.prog 43 = none := by kernel_rfl
theorem str_43 : tyStr Try.prog 43 = false := by kernel_rfl
theorem bool_43 : tyBool Try.prog 43 = false := by kernel_rfl
theorem ptr_43 : tyPtr Try.prog 43 = false := by kernel_rfl
theorem zag_43 : tyZag Try.prog 43 = false := by kernel_rfl
theorem map_43 : tyMap Try.prog 43 = none := by kernel_rfl
theorem pl_43 : tyPlaces Try.prog 43 = none := by kernel_rfl
def ty_43 := And.intro und_43 <| And.intro agg_43 <| And.intro sz_43 <| And.intro by_43 <| And.intro zero_43 <| And.intro elem_43 <| And.intro arr_43 <| And.intro int_43 <| And.intro str_43 <| And.intro bool_43 <| And.intro ptr_43 <| And.intro zag_43 <| And.intro map_43 <| pl_43
theorem und_46 : (Program.underlying Try.prog 46).isSome = true := by kernel_rfl
theorem agg_46 : tyAgg Try.prog 46 = some false := by kernel_rfl
theorem sz_46 : tySize Try.prog 46 = some 1 := by kernel_rfl
theorem by_46 : tyBytes Try.prog 46 = some 8 := by kernel_rfl
theorem zero_46 : tyZero Try.prog 46 = some [.c (.int .u64 0)] := by kernel_rfl
theorem elem_46 : tyElem Try.prog 46 = none := by kernel_rfl
theorem arr_46 : tyArr Try.prog 46 = none := by kernel_rfl
theorem int_46 : tyInt Try.prog 46 = some .u64 := by kernel_rfl
theorem str_46 : tyStr Try.prog 46 = false := by kernel_rfl
theorem bool_46 : tyBool Try.prog 46 = false := by kernel_rfl
theorem ptr_46 : tyPtr Try.prog 46 = false := by kernel_rfl
theorem zag_46 : tyZag Try.prog 46 = false := by kernel_rfl
theorem map_46 : tyMap Try.prog 46 = none := by kernel_rfl
theorem pl_46 : tyPlaces Try.prog 46 = none := by kernel_rfl
def ty_46 := And.intro und_46 <| And.intro agg_46 <| And.intro sz_46 <| And.intro by_46 <| And.intro zero_46 <| And.intro elem_46 <| And.intro arr_46 <| And.intro int_46 <| And.intro str_46 <| And.intro bool_46 <| And.intro ptr_46 <| And.intro zag_46 <| And.intro map_46 <| pl_46
theorem und_62 : (Program.underlying Try.prog 62).isSome = true := by kernel_rfl
theorem agg_62 : tyAgg Try.prog 62 = some false := by kernel_rfl
theorem sz_62 : tySize Try.prog 62 = some 1 := by kernel_rfl
theorem by_62 : tyBytes Try.prog 62 = some 24 := by kernel_rfl
theorem zero_62 : tyZero Try.prog 62 = some [.nilsl] := by kernel_rfl
theorem elem_62 : tyElem Try.prog 62 = some 3 := by kernel_rfl
theorem arr_62 : tyArr Try.prog 62 = none := by kernel_rfl
theorem int_62 : tyInt Try.prog 62 = none := by kernel_rfl
theorem str_62 : tyStr Try.prog 62 = false := by kernel_rfl
theorem bool_62 : tyBool Try.prog 62 = false := by kernel_rfl
theorem ptr_62 : tyPtr Try.prog 62 = false := by kernel_rfl
theorem zag_62 : tyZag Try.prog 62 = false := by kernel_rfl
theorem map_62 : tyMap Try.prog 62 = none := by kernel_rfl
theorem pl_62 : tyPlaces Try.prog 62 = none := by kernel_rfl
def ty_62 := And.intro und_62 <| And.intro agg_62 <| And.intro sz_62 <| And.intro by_62 <| And.intro zero_62 <| And.intro elem_62 <| And.intro arr_62 <| And.intro int_62 <| And.intro str_62 <| And.intro bool_62 <| And.intro ptr_62 <| And.intro zag_62 <| And.intro map_62 <| pl_62
theorem und_143 : (Program.underlying Try.prog 143).isSome = true := by kernel_rfl
theorem agg_143 : tyAgg Try.prog 143 = some false := by kernel_rfl
theorem sz_143 : tySize Try.prog 143 = some 1 := by kernel_rfl
theorem by_143 : tyBytes Try.prog 143 = some 8 := by kernel_rfl
theorem zero_143 : tyZero Try.prog 143 = some [.c (.int .u64 0)] := by kernel_rfl
theorem elem_143 : tyElem Try.prog 143 = none := by kernel_rfl
theorem arr_143 : tyArr Try.prog 143 = none := by kernel_rfl
theorem int_143 : tyInt Try.prog 143 = some .u64 := by kernel_rfl
theorem str_143 : tyStr Try.prog 143 = false := by kernel_rfl
theorem bool_143 : tyBool Try.prog 143 = false := by kernel_rfl
theorem ptr_143 : tyPtr Try.prog 143 = false := by kernel_rfl
theorem zag_143 : tyZag Try.prog 143 = false := by kernel_rfl
theorem map_143 : tyMap Try.prog 143 = none := by kernel_rfl
theorem pl_143 : tyPlaces Try.prog 143 = none := by kernel_rfl
def ty_143 := And.intro und_143 <| And.intro agg_143 <| And.intro sz_143 <| And.intro by_143 <| And.intro zero_143 <| And.intro elem_143 <| And.intro arr_143 <| And.intro int_143 <| And.intro str_143 <| And.intro bool_143 <| And.intro ptr_143 <| And.intro zag_143 <| And.intro map_143 <| pl_143
theorem und_151 : (Program.underlying Try.prog 151).isSome = true := by kernel_rfl
theorem agg_151 : tyAgg Try.prog 151 = some false := by kernel_rfl
theorem sz_151 : tySize Try.prog 151 = some 1 := by kernel_rfl
theorem by_151 : tyBytes Try.prog 151 = some 4 := by kernel_rfl
theorem zero_151 : tyZero Try.prog 151 = some [.c (.int .u32 0)] := by kernel_rfl
theorem elem_151 : tyElem Try.prog 151 = none := by kernel_rfl
theorem arr_151 : tyArr Try.prog 151 = none := by kernel_rfl
theorem int_151 : tyInt Try.prog 151 = some .u32 := by kernel_rfl
theorem str_151 : tyStr Try.prog 151 = false := by kernel_rfl
theorem bool_151 : tyBool Try.prog 151 = false := by kernel_rfl
theorem ptr_151 : tyPtr Try.prog 151 = false := by kernel_rfl
theorem zag_151 : tyZag Try.prog 151 = false := by kernel_rfl
theorem map_151 : tyMap Try.prog 151 = none := by kernel_rfl
theorem pl_151 : tyPlaces Try.prog 151 = none := by kernel_rfl
def ty_151 := And.intro und_151 <| And.intro agg_151 <| And.intro sz_151 <| And.intro by_151 <| And.intro zero_151 <| And.intro elem_151 <| And.intro arr_151 <| And.intro int_151 <| And.intro str_151 <| And.intro bool_151 <| And.intro ptr_151 <| And.intro zag_151 <| And.intro map_151 <| pl_151
theorem und_175 : (Program.underlying Try.prog 175).isSome = true := by kernel_rfl
theorem agg_175 : tyAgg Try.prog 175 = some true := by kernel_rfl
theorem sz_175 : tySize Try.prog 175 = some 8 := by kernel_rfl
theorem by_175 : tyBytes Try.prog 175 = some 32 := by kernel_rfl
theorem zero_175 : tyZero Try.prog 175 = some [.c (.int .u32 0), .c (.int .u32 0), .c (.int .u32 0), .c (.int .u32 0), .c (.int .u32 0), .c (.int .u32 0), .c (.int .u32 0), .c (.int .u32 0)] := by kernel_rfl
theorem elem_175 : tyElem Try.prog 175 = none := by kernel_rfl
theorem arr_175 : tyArr Try.prog 175 = some (8, 151) := by kernel_rfl
theorem int_175 : tyInt Try.prog 175 = none := by kernel_rfl
theorem str_175 : tyStr Try.prog 175 = false := by kernel_rfl
theorem bool_175 : tyBool Try.prog 175 = false := by kernel_rfl
theorem ptr_175 : tyPtr Try.prog 175 = false := by kernel_rfl
theorem zag_175 : tyZag Try.prog 175 = true := by kernel_rfl
theorem map_175 : tyMap Try.prog 175 = none := by kernel_rfl
theorem pl_175 : tyPlaces Try.prog 175 = none := by kernel_rfl
def ty_175 := And.intro und_175 <| And.intro agg_175 <| And.intro sz_175 <| And.intro by_175 <| And.intro zero_175 <| And.intro elem_175 <| And.intro arr_175 <| And.intro int_175 <| And.intro str_175 <| And.intro bool_175 <| And.intro ptr_175 <| And.intro zag_175 <| And.intro map_175 <| pl_175
theorem und_176 : (Program.underlying Try.prog 176).isSome = true := by kernel_rfl
theorem agg_176 : tyAgg Try.prog 176 = some true := by kernel_rfl
theorem sz_176 : tySize Try.prog 176 = some 8 := by kernel_rfl
theorem by_176 : tyBytes Try.prog 176 = some 32 := by kernel_rfl
theorem zero_176 : tyZero Try.prog 176 = some [.c (.int .u32 0), .c (.int .u32 0), .c (.int .u32 0), .c (.int .u32 0), .c (.int .u32 0), .c (.int .u32 0), .c (.int .u32 0), .c (.int .u32 0)] := by kernel_rfl
theorem elem_176 : tyElem Try.prog 176 = none := by kernel_rfl
theorem arr_176 : tyArr Try.prog 176 = some (8, 151) := by kernel_rfl
theorem int_176 : tyInt Try.prog 176 = none := by kernel_rfl
theorem str_176 : tyStr Try.prog 176 = false := by kernel_rfl
theorem bool_176 : tyBool Try.prog 176 = false := by kernel_rfl
theorem ptr_176 : tyPtr Try.prog 176 = false := by kernel_rfl
theorem zag_176 : tyZag Try.prog 176 = true := by kernel_rfl
theorem map_176 : tyMap Try.prog 176 = none := by kernel_rfl
theorem pl_176 : tyPlaces Try.prog 176 = none := by kernel_rfl
def ty_176 := And.intro und_176 <| And.intro agg_176 <| And.intro sz_176 <| And.intro by_176 <| And.intro zero_176 <| And.intro elem_176 <| And.intro arr_176 <| And.intro int_176 <| And.intro str_176 <| And.intro bool_176 <| And.intro ptr_176 <| And.intro zag_176 <| And.intro map_176 <| pl_176
theorem und_178 : (Program.underlying Try.prog 178).isSome = true := by kernel_rfl
theorem agg_178 : tyAgg Try.prog 178 = some true := by kernel_rfl
theorem sz_178 : tySize Try.prog 178 = some 64 := by kernel_rfl
theorem by_178 : tyBytes Try.prog 178 = some 256 := by kernel_rfl
theorem zero_178 : tyZero Try.prog 178 = some (zrep 64 (.c (.int .u32 0))) := by kernel_rfl
theorem elem_178 : tyElem Try.prog 178 = none := by kernel_rfl
theorem arr_178 : tyArr Try.prog 178 = some (64, 151) := by kernel_rfl
theorem int_178 : tyInt Try.prog 178 = none := by kernel_rfl
theorem str_178 : tyStr Try.prog 178 = false := by kernel_rfl
theorem bool_178 : tyBool Try.prog 178 = false := by kernel_rfl
theorem ptr_178 : tyPtr Try.prog 178 = false := by kernel_rfl
theorem zag_178 : tyZag Try.prog 178 = true := by kernel_rfl
theorem map_178 : tyMap Try.prog 178 = none := by kernel_rfl
theorem pl_178 : tyPlaces Try.prog 178 = none := by kernel_rfl
def ty_178 := And.intro und_178 <| And.intro agg_178 <| And.intro sz_178 <| And.intro by_178 <| And.intro zero_178 <| And.intro elem_178 <| And.intro arr_178 <| And.intro int_178 <| And.intro str_178 <| And.intro bool_178 <| And.intro ptr_178 <| And.intro zag_178 <| And.intro map_178 <| pl_178
theorem und_181 : (Program.underlying Try.prog 181).isSome = true := by kernel_rfl
theorem agg_181 : tyAgg Try.prog 181 = some false := by kernel_rfl
theorem sz_181 : tySize Try.prog 181 = some 1 := by kernel_rfl
theorem by_181 : tyBytes Try.prog 181 = some 8 := by kernel_rfl
theorem zero_181 : tyZero Try.prog 181 = some [.nilptr] := by kernel_rfl
theorem elem_181 : tyElem Try.prog 181 = none := by kernel_rfl
theorem arr_181 : tyArr Try.prog 181 = none := by kernel_rfl
theorem int_181 : tyInt Try.prog 181 = none := by kernel_rfl
theorem str_181 : tyStr Try.prog 181 = false := by kernel_rfl
theorem bool_181 : tyBool Try.prog 181 = false := by kernel_rfl
theorem ptr_181 : tyPtr Try.prog 181 = true := by kernel_rfl
theorem zag_181 : tyZag Try.prog 181 = false := by kernel_rfl
theorem map_181 : tyMap Try.prog 181 = none := by kernel_rfl
theorem pl_181 : tyPlaces Try.prog 181 = none := by kernel_rfl
def ty_181 := And.intro und_181 <| And.intro agg_181 <| And.intro sz_181 <| And.intro by_181 <| And.intro zero_181 <| And.intro elem_181 <| And.intro arr_181 <| And.intro int_181 <| And.intro str_181 <| And.intro bool_181 <| And.intro ptr_181 <| And.intro zag_181 <| And.intro map_181 <| pl_181
theorem und_183 : (Program.underlying Try.prog 183).isSome = true := by kernel_rfl
theorem agg_183 : tyAgg Try.prog 183 = some false := by kernel_rfl
theorem sz_183 : tySize Try.prog 183 = some 1 := by kernel_rfl
theorem by_183 : tyBytes Try.prog 183 = some 24 := by kernel_rfl
theorem zero_183 : tyZero Try.prog 183 = some [.nilsl] := by kernel_rfl
theorem elem_183 : tyElem Try.prog 183 = some 151 := by kernel_rfl
theorem arr_183 : tyArr Try.prog 183 = none := by kernel_rfl
theorem int_183 : tyInt Try.prog 183 = none := by kernel_rfl
theorem str_183 : tyStr Try.prog 183 = false := by kernel_rfl
theorem bool_183 : tyBool Try.prog 183 = false := by kernel_rfl
theorem ptr_183 : tyPtr Try.prog 183 = false := by kernel_rfl
theorem zag_183 : tyZag Try.prog 183 = false := by kernel_rfl
theorem map_183 : tyMap Try.prog 183 = none := by kernel_rfl
theorem pl_183 : tyPlaces Try.prog 183 = none := by kernel_rfl
def ty_183 := And.intro und_183 <| And.intro agg_183 <| And.intro sz_183 <| And.intro by_183 <| And.intro zero_183 <| And.intro elem_183 <| And.intro arr_183 <| And.intro int_183 <| And.intro str_183 <| And.intro bool_183 <| And.intro ptr_183 <| And.intro zag_183 <| And.intro map_183 <| pl_183
theorem nt_3 : Try.f3.ntmps = 71 := by kernel_rfl
theorem rs_3 : Try.f3.results.toList = [.tmp 4] := by kernel_rfl
theorem nt_12 : Try.f12.ntmps = 3 := by kernel_rfl
theorem rs_12 : Try.f12.results.toList = [.tmp 0] := by kernel_rfl
theorem nt_13 : Try.f13.ntmps = 67 := by kernel_rfl
theorem rs_13 : Try.f13.results.toList = [.tmp 4, .cell 5 24, .tmp 6] := by kernel_rfl
theorem nt_14 : Try.f14.ntmps = 45 := by kernel_rfl
theorem rs_14 : Try.f14.results.toList = [.tmp 4] := by kernel_rfl
theorem nt_15 : Try.f15.ntmps = 64 := by kernel_rfl
theorem rs_15 : Try.f15.results.toList = [.tmp 4, .tmp 5] := by kernel_rfl
theorem nt_16 : Try.f16.ntmps = 4 := by kernel_rfl
theorem rs_16 : Try.f16.results.toList = [.tmp 2] := by kernel_rfl
theorem nt_17 : Try.f17.ntmps = 26 := by kernel_rfl
theorem rs_17 : Try.f17.results.toList = [.tmp 4] := by kernel_rfl
theorem nt_19 : Try.f19.ntmps = 44 := by kernel_rfl
theorem rs_19 : Try.f19.results.toList = [.tmp 2] := by kernel_rfl
theorem nt_20 : Try.f20.ntmps = 55 := by kernel_rfl
theorem rs_20 : Try.f20.results.toList = [.tmp 2] := by kernel_rfl
theorem nt_23 : Try.f23.ntmps = 13 := by kernel_rfl
theorem rs_23 : Try.f23.results.toList = [.tmp 2] := by kernel_rfl
theorem nt_56 : Try.f56.ntmps = 42 := by kernel_rfl
theorem rs_56 : Try.f56.results.toList = [.tmp 4, .tmp 5] := by kernel_rfl
theorem nt_58 : Try.f58.ntmps = 29 := by kernel_rfl
theorem rs_58 : Try.f58.results.toList = [.tmp 6] := by kernel_rfl
theorem nt_59 : Try.f59.ntmps = 8 := by kernel_rfl
theorem rs_59 : Try.f59.results.toList = [.tmp 2] := by kernel_rfl
theorem nt_60 : Try.f60.ntmps = 53 := by kernel_rfl
theorem rs_60 : Try.f60.results.toList = [.tmp 4, .tmp 5] := by kernel_rfl
theorem nt_61 : Try.f61.ntmps = 29 := by kernel_rfl
theorem rs_61 : Try.f61.results.toList = [.tmp 4] := by kernel_rfl
theorem nt_62 : Try.f62.ntmps = 29 := by kernel_rfl
theorem rs_62 : Try.f62.results.toList = [.tmp 6] := by kernel_rfl
theorem nt_64 : Try.f64.ntmps = 6 := by kernel_rfl
theorem rs_64 : Try.f64.results.toList = [.tmp 2] := by kernel_rfl
theorem nt_65 : Try.f65.ntmps = 9 := by kernel_rfl
theorem rs_65 : Try.f65.results.toList = [.tmp 4] := by kernel_rfl
theorem nt_67 : Try.f67.ntmps = 39 := by kernel_rfl
theorem rs_67 : Try.f67.results.toList = [.tmp 2] := by kernel_rfl
theorem nt_102 : Try.f102.ntmps = 28 := by kernel_rfl
theorem rs_102 : Try.f102.results.toList = [.tmp 2] := by kernel_rfl
theorem nt_103 : Try.f103.ntmps = 16 := by kernel_rfl
theorem rs_103 : Try.f103.results.toList = [.tmp 4] := by kernel_rfl
theorem nt_104 : Try.f104.ntmps = 20 := by kernel_rfl
theorem rs_104 : Try.f104.results.toList = [.tmp 6] := by kernel_rfl
theorem nt_105 : Try.f105.ntmps = 50 := by kernel_rfl
theorem rs_105 : Try.f105.results.toList = [.tmp 2] := by kernel_rfl
theorem nt_106 : Try.f106.ntmps = 19 := by kernel_rfl
theorem rs_106 : Try.f106.results.toList = [.tmp 4] := by kernel_rfl
theorem nt_107 : Try.f107.ntmps = 27 := by kernel_rfl
theorem rs_107 : Try.f107.results.toList = [.tmp 6] := by kernel_rfl
theorem nt_108 : Try.f108.ntmps = 19 := by kernel_rfl
theorem rs_108 : Try.f108.results.toList = [.tmp 4] := by kernel_rfl
theorem nt_111 : Try.f111.ntmps = 7 := by kernel_rfl
theorem rs_111 : Try.f111.results.toList = [.tmp 2] := by kernel_rfl
theorem nt_113 : Try.f113.ntmps = 6 := by kernel_rfl
theorem rs_113 : Try.f113.results.toList = [.tmp 2] := by kernel_rfl
theorem nt_131 : Try.f131.ntmps = 25 := by kernel_rfl
theorem rs_131 : Try.f131.results.toList = [.tmp 2] := by kernel_rfl
theorem nt_133 : Try.f133.ntmps = 27 := by kernel_rfl
theorem rs_133 : Try.f133.results.toList = [.tmp 4] := by kernel_rfl
theorem nt_134 : Try.f134.ntmps = 33 := by kernel_rfl
theorem rs_134 : Try.f134.results.toList = [.tmp 4] := by kernel_rfl
theorem nt_135 : Try.f135.ntmps = 21 := by kernel_rfl
theorem rs_135 : Try.f135.results.toList = [.tmp 2] := by kernel_rfl
theorem nt_136 : Try.f136.ntmps = 239 := by kernel_rfl
theorem rs_136 : Try.f136.results.toList = [.tmp 2] := by kernel_rfl
theorem nt_137 : Try.f137.ntmps = 7 := by kernel_rfl
theorem rs_137 : Try.f137.results.toList = [.tmp 2] := by kernel_rfl
theorem nt_146 : Try.f146.ntmps = 2 := by kernel_rfl
theorem rs_146 : Try.f146.results.toList = [.cell 0 176] := by kernel_rfl
theorem nt_147 : Try.f147.ntmps = 2 := by kernel_rfl
theorem rs_147 : Try.f147.results.toList = [.cell 0 178] := by kernel_rfl
theorem nt_148 : Try.f148.ntmps = 19 := by kernel_rfl
theorem rs_148 : Try.f148.results.toList = [.tmp 2] := by kernel_rfl
theorem nt_149 : Try.f149.ntmps = 119 := by kernel_rfl
theorem rs_149 : Try.f149.results.toList = [.cell 6 176] := by kernel_rfl
theorem nt_150 : Try.f150.ntmps = 32 := by kernel_rfl
theorem rs_150 : Try.f150.results.toList = [.tmp 2] := by kernel_rfl
theorem nt_151 : Try.f151.ntmps = 2 := by kernel_rfl
theorem rs_151 : Try.f151.results.toList = [.cell 0 178] := by kernel_rfl
theorem nt_152 : Try.f152.ntmps = 22 := by kernel_rfl
theorem rs_152 : Try.f152.results.toList = [.tmp 2] := by kernel_rfl
theorem nt_153 : Try.f153.ntmps = 13 := by kernel_rfl
theorem rs_153 : Try.f153.results.toList = [.tmp 4] := by kernel_rfl
theorem nt_154 : Try.f154.ntmps = 5 := by kernel_rfl
theorem rs_154 : Try.f154.results.toList = [.tmp 2] := by kernel_rfl
theorem nt_160 : Try.f160.ntmps = 64 := by kernel_rfl
theorem rs_160 : Try.f160.results.toList = [.cell 2 178] := by kernel_rfl
theorem nt_161 : Try.f161.ntmps = 9 := by kernel_rfl
theorem rs_161 : Try.f161.results.toList = [.tmp 4] := by kernel_rfl
theorem nt_162 : Try.f162.ntmps = 36 := by kernel_rfl
theorem rs_162 : Try.f162.results.toList = [.tmp 2] := by kernel_rfl
theorem nt_165 : Try.f165.ntmps = 17 := by kernel_rfl
theorem rs_165 : Try.f165.results.toList = [.tmp 4] := by kernel_rfl
theorem mixed : Try.prog.follows .mixedOrders = true := by kernel_rfl


/-- A number's octets. -/
def putB (n : Int) (size : Int) : List UInt8 :=
  (List.range (min (max size 0) 8).toNat).map fun (i : Nat) => UInt8.ofNat ((IntKind.u64.wrap n).toNat / 256 ^ ((min (max size 0) 8).toNat - 1 - i) % 256)

def putC : Contract := fun args objs => match args, objs with
  | [.c (.int .i64 n), .c (.int .i64 size)], [] => if 0 ≤ size ∧ size ≤ 8 then some ⟨[.fresh 1 (bytes (putB n size))], []⟩ else none
  | _, _ => none

theorem bytes_length (l : List UInt8) : (bytes l).length = l.length := by simp [bytes]
theorem bytes_append (a b : List UInt8) : bytes (a ++ b) = bytes a ++ bytes b := by simp [bytes]
theorem rowsOK_bytes (l : List UInt8) : rowsOK 1 (bytes l) := by
  intro r hr
  simp only [bytes, List.mem_map] at hr
  obtain ⟨b, _, rfl⟩ := hr
  rfl
theorem bytes_app (a b : List UInt8) : bytes a ++ bytes b = bytes (a ++ b) := (bytes_append a b).symm

structure WS where
  b : List UInt8
  e : Int
  deriving DecidableEq
variable {Γ : FuncId → Contract}
theorem putB_length (n size : Int) : (putB n size).length = (min (max size 0) 8).toNat := by simp [putB]

open Go Go.Proofs Go.RowKit Go.Shelf
attribute [local go_sem] Oper.semAt_some

/-- The box holds the slice, the slice's places hold octets. -/
def Rd (Bs b k cap : Nat) (W : World) : Prop :=
  W.cell? ⟨Bs, 0, none⟩ = some (.slice (some ⟨b, 0, none⟩) k cap) ∧ ∀ j, j < k → ∃ x, W.cell? ⟨b, j, none⟩ = some (.int .u8 x)

set_option maxRecDepth 100000 in
set_option maxHeartbeats 4000000 in
theorem back1_in (F : Fence) (n : Nat) (h7 : F.fn 132) (hro : F.round = none) (hn : 1 ≤ n) (l Bs b k cap : Nat) (hk : k ≤ 140737488351232) (J Jx : List (Nat × Value) → World → Prop)
    (hY : ∀ pre x W, J pre W → pre.length < k → x.1 < k → YieldAt F (n - 1) Try.prog l #[.int .i64 (x.1 : Int), x.2] W fun e W' =>
      (e = .returned (.bool true) ∧ J (pre ++ [x]) W' ∧ (Rd Bs b k cap W → Rd Bs b k cap W')) ∨ (e = .returned (.bool false) ∧ Jx (pre ++ [x]) W'))
    (W : World) (hR : Rd Bs b k cap W) (h0 : J [] W) :
    CallsIn F n Try.prog 132 #[.func (.yield l) #[] #[], .pointer (some ⟨Bs, 0, none⟩)] W fun e W' => (∃ v, e = .returned v) ∧
      ((∃ ys, ys.map (·.1) = (List.range k).map (fun m => k - 1 - m) ∧ J ys W') ∨ (∃ pre, True ∧ Jx pre W')) := by
  refine callsIn_of_wp Try.func132 rfl h7 ?_ hro
  simp only [Try.ntmps132, List.size_toArray, List.length_cons, List.length_nil, Nat.reduceAdd, Nat.reduceSub, Array.replicate_succ, Array.replicate_zero, List.push_toArray, List.append_toArray, List.nil_append, List.cons_append]
  have hbox := hR.1
  gi_wp2
  gi_loopw [3] (fun i wr => ∃ (m : Nat) (ys : List (Nat × Value)), m ≤ k ∧ i = .int .i64 ((k : Int) - 1 - m) ∧ ys.map (·.1) = (List.range m).map (fun j => k - 1 - j) ∧ J ys wr ∧ Rd Bs b k cap wr)
    (fun i _ => (intOf i + 1).toNat)
  case atStart => exact ⟨0, [], Nat.zero_le _, by simp, rfl, h0, hR⟩
  case round =>
    obtain ⟨m, ys, hm, rfl, hys, hJs, hRs⟩ := hrel
    by_cases hlt : m < k
    · obtain ⟨x, hx⟩ := hRs.2 (k - 1 - m) (by omega)
      obtain ⟨fn, tmps, assign, body, hy, hR1⟩ := hY ys (k - 1 - m, .int .u8 x) wr hJs (by have := congrArg List.length hys; simp at this; omega) (by omega)
      dsimp only at hy
      have hbx := hRs.1
      have e1 : ((k - 1 - m : Nat) : Int) = (k : Int) - 1 - m := by omega
      rw [e1] at hy
      gi_wp2
      refine hR1.mono ?_
      rintro e W3 (⟨rfl, hJ3, hk3⟩ | ⟨rfl, hJx3⟩)
      · gi_wp2
        go_roundw
        case rel => exact ⟨m + 1, ys ++ [(k - 1 - m, .int .u8 x)], by omega, by congr 1; omega, by simp [hys, List.range_succ], hJ3, hk3 hRs⟩
        case measure => simp [intOf]; omega
      · gi_wp2
        refine bodyPost_ret (results_none rfl _ _ _) rfl ?_
        exact ⟨⟨_, rfl⟩, .inr ⟨_, trivial, hJx3⟩⟩
    · obtain rfl : m = k := by omega
      gi_wp2
      go_end0
      exact ⟨⟨_, rfl⟩, .inl ⟨ys, hys, hJs⟩⟩

/-- slices.Backward: the slice is boxed. -/
theorem back_in (F : Fence) (n : Nat) (h5 : F.fn 101) (hro : F.round = none) (a : Option Addr) (len cap : Nat) (w : World) :
    CallsIn F n Try.prog 101 #[.slice a len cap] w fun e w' => e = .returned (.func (.func 132) #[] #[.pointer (some ⟨w.heap.size, 0, none⟩)]) ∧ w' = w.alloc (.cells #[.slice a len cap] 25) := by
  refine callsIn_of_wp Try.func101 rfl h5 ?_ hro
  simp only [Try.ntmps101, List.size_toArray, List.length_cons, List.length_nil, Nat.reduceAdd, Nat.reduceSub, Array.replicate_succ, Array.replicate_zero, List.push_toArray, List.append_toArray, List.nil_append, List.cons_append]
  gi_wp2
  go_ret
  exact ⟨rfl, rfl⟩

theorem Rd.putObj {Bs b k cap l : Nat} {W : World} (h : Rd Bs b k cap W) (o : Obj) (h1 : Bs ≠ l) (h2 : b ≠ l) : Rd Bs b k cap (W.putObj l o) := by
  have e : ∀ (c j : Nat), c ≠ l → (W.putObj l o).cell? ⟨c, j, none⟩ = W.cell? ⟨c, j, none⟩ := fun c j hc => by
    simp only [World.cell?, World.putObj_heap_other hc]
  exact ⟨by rw [e _ _ h1]; exact h.1, fun j hj => by rw [e _ _ h2]; exact h.2 j hj⟩

theorem Rd.below {Bs b k cap B : Nat} {A W : World} (h : Rd Bs b k cap A) (hb : Below B A W) (h1 : Bs < B) (h2 : b < B) : Rd Bs b k cap W :=
  ⟨(hb.cell (p := ⟨Bs, 0, none⟩) h1).trans h.1, fun j hj => let ⟨x, hx⟩ := h.2 j hj; ⟨x, (hb.cell (p := ⟨b, j, none⟩) h2).trans hx⟩⟩

theorem back_stops (F : Fence) (n : Nat) (h7 : F.fn 132) (hro : F.round = none) (hn : 1 ≤ n) (Bs b k cap : Nat) (hk : k ≤ 140737488351232) (w : World) (hBs : Bs < w.heap.size) (hb : b < w.heap.size)
    (hR : Rd Bs b k cap w) :
    SeqStopsK F n Try.prog 132 #[.pointer (some ⟨Bs, 0, none⟩)] (fun x : Fin k × Value => #[Value.int .i64 ((x.1.val : Nat) : Int), x.2]) (fun A B => Rd Bs b k cap A → Rd Bs b k cap B)
      (fun ys => ys.map (fun x => x.1.val) = (List.range k).map (fun m => k - 1 - m)) (fun _ => True) k w := fun l J Jx W hW _ _ hY h0 => by
  have := back1_in F n h7 hro hn l Bs b k cap hk (fun ys W => ∃ zs : List (Fin k × Value), zs.map (fun x => (x.1.val, x.2)) = ys ∧ J zs W) (fun ys W => ∃ zs : List (Fin k × Value), zs.map (fun x => (x.1.val, x.2)) = ys ∧ Jx zs W) (fun pre x W hJ hlen hx => ?_) W (hR.below hW hBs hb) ⟨[], rfl, h0⟩
  · refine this.mono ?_
    rintro e W' ⟨he, ⟨ys, hys, zs, rfl, hJ⟩ | ⟨pre, _, zs, rfl, hJ⟩⟩
    · exact ⟨he, .inl ⟨zs, by rw [← hys]; simp, hJ⟩⟩
    · exact ⟨he, .inr ⟨zs, trivial, hJ⟩⟩
  · obtain ⟨zs, rfl, hJ⟩ := hJ
    obtain ⟨fn, tmps, assign, body, hy, hR1⟩ := hY zs (⟨x.1, hx⟩, x.2) W hJ (by simpa using hlen)
    refine ⟨fn, tmps, assign, body, hy, hR1.mono ?_⟩
    rintro e W' (⟨rfl, hJ', hk'⟩ | ⟨rfl, hJx'⟩)
    · exact .inl ⟨rfl, ⟨_, by simp, hJ'⟩, hk'⟩
    · exact .inr ⟨rfl, ⟨_, by simp, hJx'⟩⟩

/-- One round: a place is written. -/
def putStep (t : List Value × Int) (i : Nat) : List Value × Int := (t.1.set i (.int .u8 (t.2 % 256)), t.2 / 256)

theorem mk_run (k : Nat) (hk : k ≤ 8) (w : World) : (Instr.makeSlice 25 (.int .i64 (k : Int)) (.int .i64 (k : Int))).run Try.prog w = .ok (.slice (some ⟨w.heap.size, 0, none⟩) k k) (w.alloc (.cells (Array.replicate k (.int .u8 0)) 5)) := by
  have hi : (Try.prog.info? 5).map (fun i => (i.zero, i.size, i.bytes)) = some (some (.int .u8 0), 1, 1) := by kernel_rfl
  cases h : Try.prog.info? 5 with
  | none => rw [h] at hi; cases hi
  | some i =>
    rw [h] at hi
    simp only [Option.map_some, Option.some.injEq, Prod.mk.injEq] at hi
    obtain ⟨h2, h3, h4⟩ := hi
    have := run_makeSlice (P := Try.prog) (w := w) 25 5 i _ Try.underlying25 h h2 .i64 .i64 (k : Int) (k : Int) (by omega) (Int.le_refl _) (by rw [h3]; simp; omega) (by rw [h4]; omega) (by omega)
    simp only [Int.toNat_natCast] at this
    rw [this]
    have e : madeCells (Value.int .u8 0).cells (k * i.size) = Array.replicate k (.int .u8 0) := by
      rw [h3, Nat.mul_one]
      apply Array.ext
      · simp [madeCells]
      · intro j hj1 hj2
        simp [madeCells, Value.cells, Nat.mod_one]
    rw [e]

theorem heap_own {W W' : World} {row : Option Nat} {b : Nat} {vs : Array Value} {ty : TypeId} {fz : Nat × Nat} (h : W.heap[b]? = some (.cells vs ty fz)) (hg : W.grownBy W' row)
    (hr : ∀ r, row = some r → ∃ o : Obj, W.heap[r]? = some o ∧ o.isCells = false) : W'.heap[b]? = some (.cells vs ty fz) := by
  have hlt : b < W.heap.size := (Array.getElem?_eq_some_iff.1 h).1
  refine (hg.block b hlt (fun e => ?_)).trans h
  obtain ⟨o, ho, hc⟩ := hr b e.symm
  rw [h] at ho
  cases ho
  simp [Obj.isCells] at hc
theorem heap_set {W : World} {b o : Nat} {vs : Array Value} {ty : TypeId} {fz : Nat × Nat} (h : W.heap[b]? = some (.cells vs ty fz)) (v : Value) : (W.setCell ⟨b, o, none⟩ v).heap[b]? = some (.cells (vs.setIfInBounds o v) ty fz) := by
  simp [World.setCell, Array.getElem?_modify, h]

/-- What a round finds. -/
structure PutI (w : World) (k : Nat) (x : Int) (pre : List (Fin k × Value)) (W : World) : Prop where
  row : W.heap[w.heap.size]? = some (.cells (pre.foldl (fun t y => putStep t y.1.val) (List.replicate k (.int .u8 0), IntKind.u64.wrap x)).1.toArray 5 (0, 0))
  out : W.heap[w.heap.size + 1]? = some (.cells #[.slice (some ⟨w.heap.size, 0, none⟩) k k] 25 (0, 0))
  u : W.heap[w.heap.size + 1 + 1]? = some (.cells #[.int .u64 (pre.foldl (fun t y => putStep t y.1.val) (List.replicate k (.int .u8 0), IntKind.u64.wrap x)).2] 143 (0, 0))
  box : W.heap[w.heap.size + 1 + 1 + 1]? = some (.cells #[.slice (some ⟨w.heap.size, 0, none⟩) k k] 25 (0, 0))
  bel : Below w.heap.size w W

theorem put_len {k : Nat} : ∀ (pre : List (Fin k × Value)) (t : List Value × Int), (pre.foldl (fun t y => putStep t y.1.val) t).1.length = t.1.length := by
  intro pre
  induction pre with
  | nil => intro t; rfl
  | cons y pre ih => intro t; rw [List.foldl_cons, ih]; simp [putStep]

set_option maxRecDepth 100000 in
set_option maxHeartbeats 4000000 in
theorem put_in (F : Fence) (n : Nat) (h3 : F.fn 57) (h5 : F.fn 101) (h7 : F.fn 132) (hro : F.round = none) (hn : 3 ≤ n) (x : Int) (k : Nat) (hk : k ≤ 8) (w : World) :
    CallsIn F n Try.prog 57 #[.int .i64 x, .int .i64 (k : Int)] w fun e W' => e = .returned (.slice (some ⟨w.heap.size, 0, none⟩) k k) ∧ Below w.heap.size w W' ∧
      ∃ pre : List (Fin k × Value), pre.map (fun x => x.1.val) = (List.range k).map (fun m => k - 1 - m) ∧
        W'.heap[w.heap.size]? = some (.cells (pre.foldl (fun t y => putStep t y.1.val) (List.replicate k (.int .u8 0), IntKind.u64.wrap x)).1.toArray 5 (0, 0)) := by
  have h1 : 1 ≤ n := by omega
  have g1 : ¬ ((0 : Int) > (k : Int)) := by omega
  have g2 : ¬ ((8 : Int) < (k : Int)) := by omega
  have hmk := mk_run k hk
  refine callsIn_of_wp_marks Try.func57 rfl h3 ?_ hro
  simp only [Try.ntmps57, List.size_toArray, List.length_cons, List.length_nil, Nat.reduceAdd, Nat.reduceSub, Array.replicate_succ, Array.replicate_zero, List.push_toArray, List.append_toArray, List.nil_append, List.cons_append]
  gi_wp2_with (gi_at_call 101; refine (back_in F (n - 1) h5 hro _ _ _ _).mono ?_; rintro e w' ⟨rfl, rfl⟩)
  have hI0 : PutI w k x [] ((((w.alloc (.cells (Array.replicate k (.int .u8 0)) 5)).alloc (.cells #[.slice (some ⟨w.heap.size, 0, none⟩) k k] 25)).alloc (.cells #[.int .u64 (IntKind.u64.wrap x)] 143)).alloc (.cells #[.slice (some ⟨w.heap.size, 0, none⟩) k k] 25)) := by
    have a0 : ∀ (v : World) (o : Obj) (b : Nat), b < v.heap.size → (v.alloc o).heap[b]? = v.heap[b]? := fun v o b hb => Below.heap_alloc v o b hb
    have a1 : ∀ (v : World) (o : Obj), (v.alloc o).heap[v.heap.size]? = some o := fun v o => World.alloc_heap_new v o
    refine ⟨?_, ?_, ?_, ?_, ?_⟩
    · rw [a0 _ _ _ (by simp; omega), a0 _ _ _ (by simp; omega), a0 _ _ _ (by simp), a1]; simp
    · rw [a0 _ _ _ (by simp), a0 _ _ _ (by simp)]
      have := a1 (w.alloc (.cells (Array.replicate k (.int .u8 0)) 5)) (.cells #[.slice (some ⟨w.heap.size, 0, none⟩) k k] 25)
      rwa [World.size_alloc] at this
    · rw [a0 _ _ _ (by simp)]
      have := a1 ((w.alloc (.cells (Array.replicate k (.int .u8 0)) 5)).alloc (.cells #[.slice (some ⟨w.heap.size, 0, none⟩) k k] 25)) (.cells #[.int .u64 (IntKind.u64.wrap x)] 143)
      rwa [World.size_alloc, World.size_alloc] at this
    · have := a1 (((w.alloc (.cells (Array.replicate k (.int .u8 0)) 5)).alloc (.cells #[.slice (some ⟨w.heap.size, 0, none⟩) k k] 25)).alloc (.cells #[.int .u64 (IntKind.u64.wrap x)] 143)) (.cells #[.slice (some ⟨w.heap.size, 0, none⟩) k k] 25)
      rwa [World.size_alloc, World.size_alloc, World.size_alloc] at this
    · exact ((((Below.refl _ w).alloc (Nat.le_refl _) _).alloc (by simp) _).alloc (by simp; omega) _).alloc (by simp; omega) _
  generalize hW0 : ((((w.alloc (.cells (Array.replicate k (.int .u8 0)) 5)).alloc (.cells #[.slice (some ⟨w.heap.size, 0, none⟩) k k] 25)).alloc (.cells #[.int .u64 (IntKind.u64.wrap x)] 143)).alloc (.cells #[.slice (some ⟨w.heap.size, 0, none⟩) k k] 25)) = W0 at hI0 ⊢
  have hsz : W0.heap.size = w.heap.size + 4 := by rw [← hW0]; simp
  have hRd : ∀ pre W, PutI w k x pre W → Rd (w.heap.size + 1 + 1 + 1) w.heap.size k k W := by
    intro pre W hP
    refine ⟨by simp [World.cell?, hP.box], fun j hj => ?_⟩
    have hrow := hP.row
    have hu8 : ∀ (pre : List (Fin k × Value)) (t : List Value × Int), (∀ v ∈ t.1, ∃ z, v = .int .u8 z) → ∀ v ∈ (pre.foldl (fun t y => putStep t y.1.val) t).1, ∃ z, v = .int .u8 z := by
      intro pre
      induction pre with
      | nil => intro t h; exact h
      | cons y pre ih =>
        intro t h
        rw [List.foldl_cons]
        refine ih _ fun v hv => ?_
        rcases List.mem_or_eq_of_mem_set hv with h1 | h1
        · exact h v h1
        · exact ⟨_, h1⟩
    have hl := put_len (k := k) pre (List.replicate k (.int .u8 0), IntKind.u64.wrap x)
    rw [List.length_replicate] at hl
    generalize hT : pre.foldl (fun t y => putStep t y.1.val) (List.replicate k (.int .u8 0), IntKind.u64.wrap x) = T at hrow hl
    have h8 : ∀ v ∈ T.1, ∃ z, v = .int .u8 z := by
      rw [← hT]
      exact hu8 pre _ (fun v hv => ⟨0, (List.mem_replicate.1 hv).2⟩)
    obtain ⟨z, hz⟩ := h8 (T.1[j]'(by omega)) (by simp)
    exact ⟨z, by simp [World.cell?, hrow, ← hz, hl, hj]⟩
  refine wpIn_rangeFunc_ownF hro h1 (gf := 132) (lb := #[.pointer (some ⟨w.heap.size + 1 + 1 + 1, 0, none⟩)]) rfl h7 (enters_of Try.func132 (by kernel_rfl) rfl)
    (back_stops F (n - 1) h7 hro (by omega) (w.heap.size + 1 + 1 + 1) w.heap.size k k (by omega) W0 (by omega) (by omega) (hRd _ _ hI0))
    (fun h g r => g (h r)) (fun W l o o' hl _ _ _ r => r.putObj o' (by omega) (by omega)) (Below.refl _ _) (fun _ => rfl)
    (PutI w k x) (fun _ _ _ => False)
    (fun s A B row hs hg hr => ?own)
    (fun _ _ _ _ _ hs _ _ => hs)
    hI0
    (fun y => { tmps := #[.int .i64 x, .int .i64 (k : Int), undef, undef, .slice none 0 0, .pointer (some ⟨w.heap.size + 1, 0, none⟩), .pointer (some ⟨w.heap.size + 1 + 1, 0, none⟩), .int .i64 (y.1.val : Int), .int .i64 (k : Int),
      .int .i64 (k : Int), .int .i64 (k : Int), .slice (some ⟨w.heap.size, 0, none⟩) k k, .int .i64 x, .int .u64 (IntKind.u64.wrap x), .slice (some ⟨w.heap.size, 0, none⟩) k k,
      .func (.func 132) #[] #[.pointer (some ⟨w.heap.size + 1 + 1 + 1, 0, none⟩)], .int .i64 (y.1.val : Int), y.2, undef, undef, undef, undef, undef, undef, undef, undef], defers := [] }) ?assign ?body ?done ?stop
  case own =>
    have hr' : ∀ r, row = some r → ∃ o : Obj, A.heap[r]? = some o ∧ o.isCells = false := fun r e => (hr r e).2
    exact ⟨heap_own hs.row hg hr', heap_own hs.out hg hr', heap_own hs.u hg hr', heap_own hs.box hg hr', hs.bel.grown hg hs.bel.size (fun j e => by have := (hr j e).1; omega)⟩
  case assign =>
    intro l y W K hK
    gi_wp2
    exact hK
  case body =>
    rintro l pre y W hP _
    have hrow := hP.row
    have hout := hP.out
    have hu := hP.u
    have hylt := y.1.isLt
    generalize hT : pre.foldl (fun t y => putStep t y.1.val) (List.replicate k (.int .u8 0), IntKind.u64.wrap x) = T at hrow hu
    have c1 : W.cell? ⟨w.heap.size + 1, 0, none⟩ = some (.slice (some ⟨w.heap.size, 0, none⟩) k k) := by simp [World.cell?, hout]
    have c2 : W.cell? ⟨w.heap.size + 1 + 1, 0, none⟩ = some (.int .u64 T.2) := by simp [World.cell?, hu]
    have hTl : T.1.length = k := by rw [← hT, put_len]; simp
    have c3 : W.cell? ⟨w.heap.size, y.1.val, none⟩ = some (T.1[y.1.val]'(by omega)) := by simp [World.cell?, hrow, hTl]
    have f1 : W.frozen? ⟨w.heap.size, y.1.val, none⟩ = false := by simp [World.frozen?, hrow]
    have f2 : W.frozen? ⟨w.heap.size + 1 + 1, 0, none⟩ = false := by simp [World.frozen?, hu]
    gi_wp2
    have hstep : (pre ++ [y]).foldl (fun t y => putStep t y.1.val) (List.replicate k (.int .u8 0), IntKind.u64.wrap x) = putStep T y.1.val := by rw [List.foldl_append, hT]; rfl
    have hP' : PutI w k x (pre ++ [y]) ((W.setCell ⟨w.heap.size, y.1.val, none⟩ (.int .u8 (T.2 % 256))).setCell ⟨w.heap.size + 1 + 1, 0, none⟩ (.int .u64 (T.2 / 256))) := by
      refine ⟨?_, ?_, ?_, ?_, ?_⟩
      · rw [hstep, Below.heap_setCell _ _ _ _ (by dsimp only; omega), heap_set hrow]
        simp [putStep]
      · rw [Below.heap_setCell _ _ _ _ (by dsimp only; omega), Below.heap_setCell _ _ _ _ (by dsimp only; omega)]; exact hout
      · rw [hstep, heap_set (by rw [Below.heap_setCell _ _ _ _ (by dsimp only; omega)]; exact hu)]
        simp [putStep]
      · rw [Below.heap_setCell _ _ _ _ (by dsimp only; omega), Below.heap_setCell _ _ _ _ (by dsimp only; omega)]; exact hP.box
      · exact (hP.bel.setCell (p := ⟨w.heap.size, y.1.val, none⟩) (Nat.le_refl _) _).setCell (p := ⟨w.heap.size + 1 + 1, 0, none⟩) (by simp; omega) _
    exact ⟨(KeepsOthers.setCell _ _ _).trans (KeepsOthers.setCell _ _ _), fun _ => hRd _ _ hP', hP'⟩
  case done =>
    rintro D ys W hD hys hP hK
    have hout := hP.out
    have c1 : W.cell? ⟨w.heap.size + 1, 0, none⟩ = some (.slice (some ⟨w.heap.size, 0, none⟩) k k) := by simp [World.cell?, hout]
    gi_wp2
    refine ⟨by simp, .inl ⟨_, _, rfl, run_takeDeferred hK, ?_⟩⟩
    refine ⟨_, results_tmp rfl _ _ _, rfl, hP.bel.trans (belowK_b (w := w) (Nat.le_refl _) W D _ _ (by omega) hK rfl rfl), ys, hys, ?_⟩
    rw [World.putObj_heap_other (by omega)]
    exact hP.row
  case stop =>
    rintro D c pre W _ _ h _
    exact h.elim

/-- What the rounds have written: the number's octets. -/
theorem put_fold (k : Nat) (U : Int) (hU : 0 ≤ U) : ∀ m, m ≤ k → ∃ T : List Value × Int, ((List.range m).map (fun j => k - 1 - j)).foldl putStep (List.replicate k (.int .u8 0), U) = T ∧ T.2 = U / 256 ^ m ∧ T.1.length = k ∧
    ∀ i, i < k → k - m ≤ i → T.1[i]? = some (.int .u8 (U / 256 ^ (k - 1 - i) % 256)) := by
  intro m
  induction m with
  | zero => exact fun _ => ⟨_, rfl, by simp, by simp, fun i h1 h2 => by omega⟩
  | succ m ih =>
    intro hm
    obtain ⟨T, h1, h2, h3, h4⟩ := ih (by omega)
    rw [List.range_succ, List.map_append, List.foldl_append, h1]
    refine ⟨_, rfl, ?_, ?_, fun i hi hle => ?_⟩
    · simp only [List.map_cons, List.map_nil, List.foldl_cons, List.foldl_nil, putStep, h2]
      rw [Int.ediv_ediv_of_nonneg (Int.le_of_lt (Int.pow_pos (by decide))), Int.pow_succ]
    · simp [putStep, h3]
    · simp only [List.map_cons, List.map_nil, List.foldl_cons, List.foldl_nil, putStep]
      rw [List.getElem?_set]
      by_cases e : k - 1 - m = i
      · rw [if_pos e, if_pos (by omega), h2]
        have : m = k - 1 - i := by omega
        rw [this]
      · rw [if_neg e]
        exact h4 i hi (by omega)

theorem put_sound : SoundC Try.prog 57 putC := by
  refine ⟨⟨_, Try.func57, rfl, rfl⟩, fun args objs r hr => ?_⟩
  unfold putC at hr
  split at hr
  · rename_i n size
    split at hr
    · rename_i hs
      cases hr
      refine ⟨fun x hx => ?_, fun Ext G w vals M hl hx => ?_⟩
      · simp at hx
      · obtain ⟨k, hk⟩ : ∃ k : Nat, size = (k : Int) := ⟨size.toNat, by omega⟩
        subst hk
        have hk8 : k ≤ 8 := by omega
        match vals, hl with
        | [v1, v2], _ =>
        have e1 : v1 = .int .i64 n := by
          have := hx 0 _ v1 rfl rfl
          cases this with
          | c _ _ h => cases h; rfl
        have e2 : v2 = .int .i64 (k : Int) := by
          have := hx 1 _ v2 rfl rfl
          cases this with
          | c _ _ h => cases h; rfl
        subst e1 e2
        refine Calls.mono (callsIn_wide.1 (put_in Fence.wide 3 trivial trivial trivial rfl (by omega) n k hk8 w)) ?_
        rintro e W' ⟨rfl, bel, pre, hpre, hrow⟩
        rw [← List.foldl_map (f := fun y : Fin k × Value => y.1.val) (g := putStep), hpre] at hrow
        have hU : 0 ≤ IntKind.u64.wrap n := wrap_u64_nonneg n
        obtain ⟨T, h1, h2, h3, h4⟩ := put_fold k (IntKind.u64.wrap n) hU k (Nat.le_refl _)
        rw [h1] at hrow
        have hlen : (putB n (k : Int)).length = k := by rw [putB_length]; omega
        have hv : ∀ (j : Nat) (r : List PC) (i : Nat) (c : PC), (bytes (putB n (k : Int)))[j]? = some r → r[i]? = some c → ∃ v, T.1.toArray[j * 1 + i]? = some v ∧ VR G.K c v := by
          intro j r i c hj hi
          simp only [bytes, List.getElem?_map, Option.map_eq_some_iff] at hj
          obtain ⟨b, hb, rfl⟩ := hj
          have hjk : j < k := by rw [← hlen]; exact (List.getElem?_eq_some_iff.1 hb).1
          have hi0 : i = 0 := by
            have := (List.getElem?_eq_some_iff.1 hi).1
            simpa using this
          subst hi0
          simp at hi
          subst hi
          refine ⟨.int .u8 (IntKind.u64.wrap n / 256 ^ (k - 1 - j) % 256), ?_, ?_⟩
          · have := h4 j hjk (by omega)
            simpa using this
          · have hm : (min (max (k : Int) 0) 8).toNat = k := by omega
            have : b = UInt8.ofNat ((IntKind.u64.wrap n).toNat / 256 ^ (k - 1 - j) % 256) := by
              unfold putB at hb
              rw [hm, List.getElem?_map, List.getElem?_range hjk] at hb
              simpa using hb.symm
            rw [this, UInt8.toNat_ofNat_of_lt' (Nat.mod_lt _ (by decide))]
            have e : ((( IntKind.u64.wrap n).toNat / 256 ^ (k - 1 - j) % 256 : Nat) : Int) = IntKind.u64.wrap n / 256 ^ (k - 1 - j) % 256 := by
              rw [Int.natCast_emod, Int.natCast_ediv, Int.natCast_pow, Int.toNat_of_nonneg hU]
              rfl
            rw [e]
            exact .int _ _
        obtain ⟨G', g1, g2, g3⟩ := M.newRow (w' := W') (n := outName 0) rfl (z := 1) (cap := k) (rows := bytes (putB n (k : Int))) (by decide) (bytes_rows _) (by rw [bytes_length, hlen]; exact Nat.le_refl _) (by simp [h3]) hrow hv (fun b hb => bel.block b hb) bel.os bel.tape bel.output bel.size
        · rw [bytes_length, hlen] at g2
          refine ⟨G', _, rfl, g1, ?_, g2⟩
          refine g3.congr fun i => ?_
          simp only [exitMem, entryMem, List.nil_append, resAt, look, mset, bytes_length]
    · cases hr
  · cases hr


variable {Γ : FuncId → Contract}

/-- The octets that have come when so many rounds are over. -/
def putTo (n : Int) (k i : Nat) : List UInt8 := (List.range i).map fun (j : Nat) => UInt8.ofNat ((IntKind.u64.wrap n).toNat / 256 ^ (k - 1 - j) % 256)
theorem putTo_all (n : Int) (k : Nat) (hk : k ≤ 8) : putTo n k k = putB n (k : Int) := by
  unfold putTo putB
  have : (min (max (k : Int) 0) 8).toNat = k := by omega
  rw [this]

set_option maxHeartbeats 4000000 in
theorem refPut_sound (hΓ : SoundG Try.prog Γ) : SoundC Try.prog 61 putC := by
  refine sound_fn Try.func61 (by kernel_rfl) rfl rfl ?_
  intro args objs r hr
  unfold putC at hr
  split at hr
  · rename_i n size
    split at hr
    · rename_i hs
      cases hr
      refine ⟨rfl, by show 2 ≤ _; decide, fun E hN hns hF => ?_⟩
      refine vc_sound hΓ mixed _ _ _ ?_
      have hN := hN.trans nt_61
      obtain ⟨k, hk⟩ : ∃ k : Nat, size = (k : Int) := ⟨size.toNat, by omega⟩
      subst hk
      have hk8 : k ≤ 8 := by omega
      have g1 : ¬ ((0 : Int) > (k : Int)) := by omega
      have g2 : ¬ ((8 : Int) < (k : Int)) := by omega
      simp only [runA, runB, runC, runD, runE, runF, fieldE, storeE, binE, ↓reduceIte, Nat.reduceLT, Nat.reduceLeDiff, Nat.reduceEqDiff, Nat.reduceAdd, Nat.reduceMul, Nat.reduceSub, reduceCtorEq, putAt, unE, Nat.reduceBEq, convE, buildE, List.replicate, Int.reduceLT, Int.reduceLE, Int.reduceToNat, mkE, mapSetE, hN, hF, ty_3, ty_5, ty_25, ty_46, ty_143, notIf, isEq, g1, g2, Bool.false_eq_true]
      refine AWP.loop (fun c s => ∃ i : Nat, i ≤ k ∧ c = k - i ∧ s = ⟨[(0, .c (.int .i64 n)), (1, .c (.int .i64 (k : Int))), (5, .own 1729 1 (bytes (putTo n k i))), (6, .c (.int .i64 (i : Int)))], [(1729, .row 1 i)]⟩) ⟨k, _, ?w, 0, Nat.zero_le _, rfl, rfl⟩ ?r
      case w =>
        rw [hns]
        simp only [runB, finC, finD, AS.get, AS.mem, false_implies, implies_true, ↓reduceIte, Nat.reduceEqDiff, Option.isSome_some, Option.isSome_none, forall_eq_or_imp, forall_eq, reduceCtorEq, Nat.reduceAdd, Nat.reduceMul, List.zip_cons_cons, List.zip_nil_left, List.zip_nil_right, List.forall_mem_nil]
        refine ⟨rfl, rfl⟩
      case r =>
        rintro c s ⟨i, hi, rfl, rfl⟩
        refine vc_sound hΓ mixed _ _ _ ?_
        by_cases hlt : i < k
        · have h1 : decide ((i : Int) < (k : Int)) = true := by simpa using hlt
          have e1 : IntKind.i64.wrap ((k : Int) - 1) = (k : Int) - 1 := wrapI (by omega)
          have e2 : IntKind.i64.wrap ((k : Int) - 1 - i) = (k : Int) - 1 - i := wrapI (by omega)
          have e3 : IntKind.i64.wrap (8 * ((k : Int) - 1 - i)) = 8 * ((k : Int) - 1 - i) := wrapI (by omega)
          have e4 : IntKind.u64.wrap (8 * ((k : Int) - 1 - i)) = 8 * ((k : Int) - 1 - i) := wrapU (by omega)
          have e5 : IntKind.i64.wrap ((i : Int) + 1) = (i : Int) + 1 := wrapI (by omega)
          have hsh : shOp .shr .u64 (IntKind.u64.wrap n) (8 * ((k : Int) - 1 - i)) = some (.int .u64 (IntKind.u64.wrap n / 256 ^ (k - 1 - i))) := by
            have hb : ¬ (8 * ((k : Int) - 1 - i) < 0) := by omega
            have hm : min (8 * ((k : Int) - 1 - i)).toNat IntKind.u64.bits = 8 * (k - 1 - i) := by
              have : IntKind.u64.bits = 64 := rfl
              omega
            simp only [shOp, if_neg hb, hm]
            rw [Int.pow_mul, show (2 : Int) ^ 8 = 256 from rfl, Int.fdiv_eq_ediv_of_nonneg _ (Int.le_of_lt (Int.pow_pos (by decide)))]
          have hz : ∀ v : Int, rowsOK 1 [[PC.int .u8 v]] := fun v r hr => by simp at hr; subst hr; rfl
          have hrow : bytes (putTo n k i) ++ [[PC.int .u8 (IntKind.u64.wrap n / 256 ^ (k - 1 - i) % 256)]] = bytes (putTo n k (i + 1)) := by
            have hU : 0 ≤ IntKind.u64.wrap n := wrap_u64_nonneg n
            rw [show putTo n k (i + 1) = putTo n k i ++ [UInt8.ofNat ((IntKind.u64.wrap n).toNat / 256 ^ (k - 1 - i) % 256)] from by simp [putTo, List.range_succ], bytes_append]
            congr 1
            simp only [bytes, List.map_cons, List.map_nil]
            rw [UInt8.toNat_ofNat_of_lt' (Nat.mod_lt _ (by decide))]
            have e : (((IntKind.u64.wrap n).toNat / 256 ^ (k - 1 - i) % 256 : Nat) : Int) = IntKind.u64.wrap n / 256 ^ (k - 1 - i) % 256 := by
              rw [Int.natCast_emod, Int.natCast_ediv, Int.natCast_pow, Int.toNat_of_nonneg hU]
              rfl
            rw [e]
          have hlen : (putTo n k i).length = i := by simp [putTo]
          have hL : i ≤ 140737488355327 := by omega
          simp only [runA, runB, runC, runD, runE, runF, fieldE, storeE, binE, ↓reduceIte, Nat.reduceLT, Nat.reduceLeDiff, Nat.reduceEqDiff, Nat.reduceAdd, Nat.reduceMul, Nat.reduceSub, reduceCtorEq, putAt, unE, Nat.reduceBEq, convE, buildE, List.replicate, Int.reduceLT, Int.reduceLE, Int.reduceToNat, mkE, mapSetE, hN, hF, ty_3, ty_5, ty_25, ty_46, ty_143, notIf, isEq, h1, e1, e2, e3, e4, e5, hsh, hz, wrapB, hrow, bytes_length, hlen, hL]
          refine ⟨k - (i + 1), _, by omega, ?_, i + 1, by omega, rfl, rfl⟩
          rw [hns]
          simp only [runB, finC, finD, AS.get, AS.mem, false_implies, implies_true, ↓reduceIte, Nat.reduceEqDiff, Option.isSome_some, Option.isSome_none, forall_eq_or_imp, forall_eq, reduceCtorEq, Nat.reduceAdd, Nat.reduceMul, List.zip_cons_cons, List.zip_nil_left, List.zip_nil_right, List.forall_mem_nil]
          first | done | rfl
        · have h1 : decide ((i : Int) < (k : Int)) = false := by simpa using hlt
          simp only [runA, runB, runC, runD, runE, runF, fieldE, storeE, binE, ↓reduceIte, Nat.reduceLT, Nat.reduceLeDiff, Nat.reduceEqDiff, Nat.reduceAdd, Nat.reduceMul, Nat.reduceSub, reduceCtorEq, putAt, unE, Nat.reduceBEq, convE, buildE, List.replicate, Int.reduceLT, Int.reduceLE, Int.reduceToNat, mkE, mapSetE, hN, hF, ty_3, ty_5, ty_25, ty_46, ty_143, notIf, isEq, h1]
          obtain rfl : i = k := by omega
          rw [← putTo_all n i hk8]
          have hlen : (putTo n i i).length = i := by simp [putTo]
          simp only [runB, finC, finD, Option.isSome_some, Option.isSome_none, ↓reduceIte, Nat.reduceEqDiff, Nat.reduceAdd, Nat.reduceMul, forall_eq_or_imp, forall_eq, implies_true, Nat.reduceBEq, reduceCtorEq, false_implies, List.zip_cons_cons, List.zip_nil_left, List.zip_nil_right, Nat.reduceLeDiff, List.forall_mem_nil, rs_61, bytes_length, hlen]
    · cases hr
  · cases hr

end Go.Proofs.Ytldehcnaepgamaa.AM
