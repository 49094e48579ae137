/-
  Q5: Ty Pk1 Pk2 Put Pk3 PkN PkT.
-/
import Derived.Test.YtcfijanfcgnnhaaQ3
import Derived.Test.YtcfijanfcgnnhaaProg
import Derived.KernelRfl
import Derived.RangeFuncNested
import Derived.RangeFuncBound
import Derived.RangeFuncCalls
import Derived.RangeFuncLeaves
import Derived.RangeFuncBox
import Derived.Shelf.Abstract
import Derived.Shelf.RegionOpen
import Derived.WalkKit
import Derived.OwnWalkIn
import Derived.TacticsInMore
import Derived.LoopNIn
import Derived.LoopIn
set_option linter.defProp false
set_option linter.unusedVariables false
set_option linter.unusedSimpArgs false
namespace Go.Proofs.Ytcfijanfcgnnhaa.AM
open Go

theorem und_3 : (Program.underlying Try.prog 3).isSome = true := by kernel_rfl
theorem agg_3 : tyAgg Try.prog 3 = some false := by kernel_rfl
theorem sz_3 : tySize Try.prog 3 = some 1 := by kernel_rfl
theorem by_3 : tyBytes Try.prog 3 = some 8 := by kernel_rfl
theorem zero_3 : tyZero Try.prog 3 = some [.c (.int .i64 0)] := by kernel_rfl
theorem elem_3 : tyElem Try.prog 3 = none := by kernel_rfl
theorem arr_3 : tyArr Try.prog 3 = none := by kernel_rfl
theorem int_3 : tyInt Try.prog 3 = some .i64 := by kernel_rfl
theorem str_3 : tyStr Try.prog 3 = false := by kernel_rfl
theorem bool_3 : tyBool Try.prog 3 = false := by kernel_rfl
theorem ptr_3 : tyPtr Try.prog 3 = false := by kernel_rfl
theorem zag_3 : tyZag Try.prog 3 = false := by kernel_rfl
theorem map_3 : tyMap Try.prog 3 = none := by kernel_rfl
theorem pl_3 : tyPlaces Try.prog 3 = none := by kernel_rfl
def ty_3 := And.intro und_3 <| And.intro agg_3 <| And.intro sz_3 <| And.intro by_3 <| And.intro zero_3 <| And.intro elem_3 <| And.intro arr_3 <| And.intro int_3 <| And.intro str_3 <| And.intro bool_3 <| And.intro ptr_3 <| And.intro zag_3 <| And.intro map_3 <| pl_3
theorem und_4 : (Program.underlying Try.prog 4).isSome = true := by kernel_rfl
theorem agg_4 : tyAgg Try.prog 4 = some false := by kernel_rfl
theorem sz_4 : tySize Try.prog 4 = some 1 := by kernel_rfl
theorem by_4 : tyBytes Try.prog 4 = some 1 := by kernel_rfl
theorem zero_4 : tyZero Try.prog 4 = some [.c (.bool false)] := by kernel_rfl
theorem elem_4 : tyElem Try.prog 4 = none := by kernel_rfl
theorem arr_4 : tyArr Try.prog 4 = none := by kernel_rfl
theorem int_4 : tyInt Try.prog 4 = none := by kernel_rfl
theorem str_4 : tyStr Try.prog 4 = false := by kernel_rfl
theorem bool_4 : tyBool Try.prog 4 = true := by kernel_rfl
theorem ptr_4 : tyPtr Try.prog 4 = false := by kernel_rfl
theorem zag_4 : tyZag Try.prog 4 = false := by kernel_rfl
theorem map_4 : tyMap Try.prog 4 = none := by kernel_rfl
theorem pl_4 : tyPlaces Try.prog 4 = none := by kernel_rfl
def ty_4 := And.intro und_4 <| And.intro agg_4 <| And.intro sz_4 <| And.intro by_4 <| And.intro zero_4 <| And.intro elem_4 <| And.intro arr_4 <| And.intro int_4 <| And.intro str_4 <| And.intro bool_4 <| And.intro ptr_4 <| And.intro zag_4 <| And.intro map_4 <| pl_4
theorem und_9 : (Program.underlying Try.prog 9).isSome = true := by kernel_rfl
theorem agg_9 : tyAgg Try.prog 9 = some false := by kernel_rfl
theorem sz_9 : tySize Try.prog 9 = some 1 := by kernel_rfl
theorem by_9 : tyBytes Try.prog 9 = some 16 := by kernel_rfl
theorem zero_9 : tyZero Try.prog 9 = some [.c (.str [])] := by kernel_rfl
theorem elem_9 : tyElem Try.prog 9 = none := by kernel_rfl
theorem arr_9 : tyArr Try.prog 9 = none := by kernel_rfl
theorem int_9 : tyInt Try.prog 9 = none := by kernel_rfl
theorem str_9 : tyStr Try.prog 9 = true := by kernel_rfl
theorem bool_9 : tyBool Try.prog 9 = false := by kernel_rfl
theorem ptr_9 : tyPtr Try.prog 9 = false := by kernel_rfl
theorem zag_9 : tyZag Try.prog 9 = false := by kernel_rfl
theorem map_9 : tyMap Try.prog 9 = none := by kernel_rfl
theorem pl_9 : tyPlaces Try.prog 9 = none := by kernel_rfl
def ty_9 := And.intro und_9 <| And.intro agg_9 <| And.intro sz_9 <| And.intro by_9 <| And.intro zero_9 <| And.intro elem_9 <| And.intro arr_9 <| And.intro int_9 <| And.intro str_9 <| And.intro bool_9 <| And.intro ptr_9 <| And.intro zag_9 <| And.intro map_9 <| pl_9
theorem und_47 : (Program.underlying Try.prog 47).isSome = true := by kernel_rfl
theorem agg_47 : tyAgg Try.prog 47 = some true := by kernel_rfl
theorem sz_47 : tySize Try.prog 47 = some 7 := by kernel_rfl
theorem by_47 : tyBytes Try.prog 47 = some 72 := by kernel_rfl
theorem zero_47 : tyZero Try.prog 47 = some [.c (.int .i64 0), .c (.int .i64 0), .c (.int .i64 0), .c (.str []), .c (.int .i64 0), .c (.int .i64 0), .c (.str [])] := by kernel_rfl
theorem elem_47 : tyElem Try.prog 47 = none := by kernel_rfl
theorem arr_47 : tyArr Try.prog 47 = none := by kernel_rfl
theorem int_47 : tyInt Try.prog 47 = none := by kernel_rfl
theorem str_47 : tyStr Try.prog 47 = false := by kernel_rfl
theorem bool_47 : tyBool Try.prog 47 = false := by kernel_rfl
theorem ptr_47 : tyPtr Try.prog 47 = false := by kernel_rfl
theorem zag_47 : tyZag Try.prog 47 = true := by kernel_rfl
theorem map_47 : tyMap Try.prog 47 = none := by kernel_rfl
theorem fd_47_0 : tyField Try.prog 47 0 = some (0, 3, 1) := by kernel_rfl
theorem fd_47_1 : tyField Try.prog 47 1 = some (1, 3, 1) := by kernel_rfl
theorem fd_47_2 : tyField Try.prog 47 2 = some (2, 3, 1) := by kernel_rfl
theorem fd_47_3 : tyField Try.prog 47 3 = some (3, 9, 1) := by kernel_rfl
theorem fd_47_4 : tyField Try.prog 47 4 = some (4, 3, 1) := by kernel_rfl
theorem fd_47_5 : tyField Try.prog 47 5 = some (5, 3, 1) := by kernel_rfl
theorem fd_47_6 : tyField Try.prog 47 6 = some (6, 9, 1) := by kernel_rfl
theorem pl_47 : tyPlaces Try.prog 47 = some [(0, 1), (1, 1), (2, 1), (3, 1), (4, 1), (5, 1), (6, 1)] := by kernel_rfl
def ty_47 := And.intro und_47 <| And.intro agg_47 <| And.intro sz_47 <| And.intro by_47 <| And.intro zero_47 <| And.intro elem_47 <| And.intro arr_47 <| And.intro int_47 <| And.intro str_47 <| And.intro bool_47 <| And.intro ptr_47 <| And.intro zag_47 <| And.intro map_47 <| And.intro fd_47_0 <| And.intro fd_47_1 <| And.intro fd_47_2 <| And.intro fd_47_3 <| And.intro fd_47_4 <| And.intro fd_47_5 <| And.intro fd_47_6 <| pl_47
theorem und_60 : (Program.underlying Try.prog 60).isSome = true := by kernel_rfl
theorem agg_60 : tyAgg Try.prog 60 = some false := by kernel_rfl
theorem sz_60 : tySize Try.prog 60 = some 1 := by kernel_rfl
theorem by_60 : tyBytes Try.prog 60 = some 24 := by kernel_rfl
theorem zero_60 : tyZero Try.prog 60 = some [.nilsl] := by kernel_rfl
theorem elem_60 : tyElem Try.prog 60 = some 3 := by kernel_rfl
theorem arr_60 : tyArr Try.prog 60 = none := by kernel_rfl
theorem int_60 : tyInt Try.prog 60 = none := by kernel_rfl
theorem str_60 : tyStr Try.prog 60 = false := by kernel_rfl
theorem bool_60 : tyBool Try.prog 60 = false := by kernel_rfl
theorem ptr_60 : tyPtr Try.prog 60 = false := by kernel_rfl
theorem zag_60 : tyZag Try.prog 60 = false := by kernel_rfl
theorem map_60 : tyMap Try.prog 60 = none := by kernel_rfl
theorem pl_60 : tyPlaces Try.prog 60 = none := by kernel_rfl
def ty_60 := And.intro und_60 <| And.intro agg_60 <| And.intro sz_60 <| And.intro by_60 <| And.intro zero_60 <| And.intro elem_60 <| And.intro arr_60 <| And.intro int_60 <| And.intro str_60 <| And.intro bool_60 <| And.intro ptr_60 <| And.intro zag_60 <| And.intro map_60 <| pl_60
theorem und_79 : (Program.underlying Try.prog 79).isSome = true := by kernel_rfl
theorem agg_79 : tyAgg Try.prog 79 = some false := by kernel_rfl
theorem sz_79 : tySize Try.prog 79 = some 1 := by kernel_rfl
theorem by_79 : tyBytes Try.prog 79 = some 24 := by kernel_rfl
theorem zero_79 : tyZero Try.prog 79 = some [.nilsl] := by kernel_rfl
theorem elem_79 : tyElem Try.prog 79 = some 47 := by kernel_rfl
theorem arr_79 : tyArr Try.prog 79 = none := by kernel_rfl
theorem int_79 : tyInt Try.prog 79 = none := by kernel_rfl
theorem str_79 : tyStr Try.prog 79 = false := by kernel_rfl
theorem bool_79 : tyBool Try.prog 79 = false := by kernel_rfl
theorem ptr_79 : tyPtr Try.prog 79 = false := by kernel_rfl
theorem zag_79 : tyZag Try.prog 79 = false := by kernel_rfl
theorem map_79 : tyMap Try.prog 79 = none := by kernel_rfl
theorem pl_79 : tyPlaces Try.prog 79 = none := by kernel_rfl
def ty_79 := And.intro und_79 <| And.intro agg_79 <| And.intro sz_79 <| And.intro by_79 <| And.intro zero_79 <| And.intro elem_79 <| And.intro arr_79 <| And.intro int_79 <| And.intro str_79 <| And.intro bool_79 <| And.intro ptr_79 <| And.intro zag_79 <| And.intro map_79 <| pl_79
theorem und_81 : (Program.underlying Try.prog 81).isSome = true := by kernel_rfl
theorem agg_81 : tyAgg Try.prog 81 = some true := by kernel_rfl
theorem sz_81 : tySize Try.prog 81 = some 4 := by kernel_rfl
theorem by_81 : tyBytes Try.prog 81 = some 56 := by kernel_rfl
theorem zero_81 : tyZero Try.prog 81 = some [.c (.int .i64 0), .c (.int .i64 0), .c (.str []), .nilsl] := by kernel_rfl
theorem elem_81 : tyElem Try.prog 81 = none := by kernel_rfl
theorem arr_81 : tyArr Try.prog 81 = none := by kernel_rfl
theorem int_81 : tyInt Try.prog 81 = none := by kernel_rfl
theorem str_81 : tyStr Try.prog 81 = false := by kernel_rfl
theorem bool_81 : tyBool Try.prog 81 = false := by kernel_rfl
theorem ptr_81 : tyPtr Try.prog 81 = false := by kernel_rfl
theorem zag_81 : tyZag Try.prog 81 = true := by kernel_rfl
theorem map_81 : tyMap Try.prog 81 = none := by kernel_rfl
theorem fd_81_0 : tyField Try.prog 81 0 = some (0, 3, 1) := by kernel_rfl
theorem fd_81_1 : tyField Try.prog 81 1 = some (1, 3, 1) := by kernel_rfl
theorem fd_81_2 : tyField Try.prog 81 2 = some (2, 9, 1) := by kernel_rfl
theorem fd_81_3 : tyField Try.prog 81 3 = some (3, 79, 1) := by kernel_rfl
theorem pl_81 : tyPlaces Try.prog 81 = some [(0, 1), (1, 1), (2, 1), (3, 1)] := by kernel_rfl
def ty_81 := And.intro und_81 <| And.intro agg_81 <| And.intro sz_81 <| And.intro by_81 <| And.intro zero_81 <| And.intro elem_81 <| And.intro arr_81 <| And.intro int_81 <| And.intro str_81 <| And.intro bool_81 <| And.intro ptr_81 <| And.intro zag_81 <| And.intro map_81 <| And.intro fd_81_0 <| And.intro fd_81_1 <| And.intro fd_81_2 <| And.intro fd_81_3 <| pl_81
theorem und_83 : (Program.underlying Try.prog 83).isSome = true := by kernel_rfl
theorem agg_83 : tyAgg Try.prog 83 = some true := by kernel_rfl
theorem sz_83 : tySize Try.prog 83 = some 8 := by kernel_rfl
theorem by_83 : tyBytes Try.prog 83 = some 112 := by kernel_rfl
theorem zero_83 : tyZero Try.prog 83 = some [.c (.int .i64 0), .c (.int .i64 0), .c (.str []), .nilsl, .c (.int .i64 0), .c (.int .i64 0), .c (.str []), .nilsl] := by kernel_rfl
theorem elem_83 : tyElem Try.prog 83 = none := by kernel_rfl
theorem arr_83 : tyArr Try.prog 83 = none := by kernel_rfl
theorem int_83 : tyInt Try.prog 83 = none := by kernel_rfl
theorem str_83 : tyStr Try.prog 83 = false := by kernel_rfl
theorem bool_83 : tyBool Try.prog 83 = false := by kernel_rfl
theorem ptr_83 : tyPtr Try.prog 83 = false := by kernel_rfl
theorem zag_83 : tyZag Try.prog 83 = true := by kernel_rfl
theorem map_83 : tyMap Try.prog 83 = none := by kernel_rfl
theorem fd_83_0 : tyField Try.prog 83 0 = some (0, 81, 4) := by kernel_rfl
theorem fd_83_1 : tyField Try.prog 83 1 = some (4, 81, 4) := by kernel_rfl
theorem pl_83 : tyPlaces Try.prog 83 = some [(0, 4), (4, 4)] := by kernel_rfl
def ty_83 := And.intro und_83 <| And.intro agg_83 <| And.intro sz_83 <| And.intro by_83 <| And.intro zero_83 <| And.intro elem_83 <| And.intro arr_83 <| And.intro int_83 <| And.intro str_83 <| And.intro bool_83 <| And.intro ptr_83 <| And.intro zag_83 <| And.intro map_83 <| And.intro fd_83_0 <| And.intro fd_83_1 <| pl_83
theorem nt_8 : Try.f8.ntmps = 169 := by kernel_rfl
theorem rs_8 : Try.f8.results.toList = [.tmp 6] := by kernel_rfl
theorem nt_40 : Try.f40.ntmps = 38 := by kernel_rfl
theorem rs_40 : Try.f40.results.toList = [.tmp 2] := by kernel_rfl
theorem nt_41 : Try.f41.ntmps = 31 := by kernel_rfl
theorem rs_41 : Try.f41.results.toList = [.tmp 4] := by kernel_rfl
theorem nt_42 : Try.f42.ntmps = 25 := by kernel_rfl
theorem rs_42 : Try.f42.results.toList = [.tmp 4] := by kernel_rfl
theorem nt_43 : Try.f43.ntmps = 3 := by kernel_rfl
theorem rs_43 : Try.f43.results.toList = [.tmp 0] := by kernel_rfl
theorem nt_69 : Try.f69.ntmps = 19 := by kernel_rfl
theorem rs_69 : Try.f69.results.toList = [.cell 4 47, .tmp 5] := by kernel_rfl
theorem nt_87 : Try.f87.ntmps = 19 := by kernel_rfl
theorem rs_87 : Try.f87.results.toList = [.tmp 4] := by kernel_rfl
theorem nt_88 : Try.f88.ntmps = 13 := by kernel_rfl
theorem rs_88 : Try.f88.results.toList = [.tmp 3] := by kernel_rfl
theorem mixed : Try.prog.follows .mixedOrders = true := by kernel_rfl


structure WS where
  b : List UInt8
  e : Int
  deriving DecidableEq
variable {Γ : FuncId → Contract}
open Go Go.Proofs Go.RowKit Go.Shelf
attribute [local go_sem] Oper.semAt_some

/-- One round: a place is written. -/
def putStep (t : List Value × Int) (i : Nat) : List Value × Int := (t.1.set i (.int .u8 (t.2 % 256)), t.2 / 256)

/-- What a round finds. -/
structure PutI (w : World) (k : Nat) (x : Int) (pre : List (Fin k × Value)) (W : World) : Prop where
  row : W.heap[w.heap.size]? = some (.cells (pre.foldl (fun t y => putStep t y.1.val) (List.replicate k (.int .u8 0), IntKind.u64.wrap x)).1.toArray 5 (0, 0))
  out : W.heap[w.heap.size + 1]? = some (.cells #[.slice (some ⟨w.heap.size, 0, none⟩) k k] 27 (0, 0))
  u : W.heap[w.heap.size + 1 + 1]? = some (.cells #[.int .u64 (pre.foldl (fun t y => putStep t y.1.val) (List.replicate k (.int .u8 0), IntKind.u64.wrap x)).2] 129 (0, 0))
  box : W.heap[w.heap.size + 1 + 1 + 1]? = some (.cells #[.slice (some ⟨w.heap.size, 0, none⟩) k k] 27 (0, 0))
  bel : Below w.heap.size w W


variable {Γ : FuncId → Contract}


variable {Γ : FuncId → Contract}


variable {Γ : FuncId → Contract}

end Go.Proofs.Ytcfijanfcgnnhaa.AM
