/-
  The types' facts, as a program wrote them.
-/
import Derived.Test.YtacglboiodolkaaAmD
import Derived.Test.YtacglboiodolkaaProg
import Derived.KernelRfl
namespace Go.Proofs.Ytacglboiodolkaa.AM
open Go

theorem und_3 : (Program.underlying Try.prog 3).isSome = true := by kernel_rfl
theorem agg_3 : tyAgg Try.prog 3 = some false := by kernel_rfl
theorem sz_3 : tySize Try.prog 3 = some 1 := by kernel_rfl
theorem by_3 : tyBytes Try.prog 3 = some 8 := by kernel_rfl
theorem zero_3 : tyZero Try.prog 3 = some [.c (.int .i64 0)] := by kernel_rfl
theorem elem_3 : tyElem Try.prog 3 = none := by kernel_rfl
theorem arr_3 : tyArr Try.prog 3 = none := by kernel_rfl
theorem int_3 : tyInt Try.prog 3 = some .i64 := by kernel_rfl
theorem str_3 : tyStr Try.prog 3 = false := by kernel_rfl
theorem bool_3 : tyBool Try.prog 3 = false := by kernel_rfl
theorem ptr_3 : tyPtr Try.prog 3 = false := by kernel_rfl
theorem map_3 : tyMap Try.prog 3 = none := by kernel_rfl
theorem pl_3 : tyPlaces Try.prog 3 = none := by kernel_rfl
theorem und_4 : (Program.underlying Try.prog 4).isSome = true := by kernel_rfl
theorem agg_4 : tyAgg Try.prog 4 = some false := by kernel_rfl
theorem sz_4 : tySize Try.prog 4 = some 1 := by kernel_rfl
theorem by_4 : tyBytes Try.prog 4 = some 1 := by kernel_rfl
theorem zero_4 : tyZero Try.prog 4 = some [.c (.bool false)] := by kernel_rfl
theorem elem_4 : tyElem Try.prog 4 = none := by kernel_rfl
theorem arr_4 : tyArr Try.prog 4 = none := by kernel_rfl
theorem int_4 : tyInt Try.prog 4 = none := by kernel_rfl
theorem str_4 : tyStr Try.prog 4 = false := by kernel_rfl
theorem bool_4 : tyBool Try.prog 4 = true := by kernel_rfl
theorem ptr_4 : tyPtr Try.prog 4 = false := by kernel_rfl
theorem map_4 : tyMap Try.prog 4 = none := by kernel_rfl
theorem pl_4 : tyPlaces Try.prog 4 = none := by kernel_rfl
theorem und_5 : (Program.underlying Try.prog 5).isSome = true := by kernel_rfl
theorem agg_5 : tyAgg Try.prog 5 = some false := by kernel_rfl
theorem sz_5 : tySize Try.prog 5 = some 1 := by kernel_rfl
theorem by_5 : tyBytes Try.prog 5 = some 1 := by kernel_rfl
theorem zero_5 : tyZero Try.prog 5 = some [.c (.int .u8 0)] := by kernel_rfl
theorem elem_5 : tyElem Try.prog 5 = none := by kernel_rfl
theorem arr_5 : tyArr Try.prog 5 = none := by kernel_rfl
theorem int_5 : tyInt Try.prog 5 = some .u8 := by kernel_rfl
theorem str_5 : tyStr Try.prog 5 = false := by kernel_rfl
theorem bool_5 : tyBool Try.prog 5 = false := by kernel_rfl
theorem ptr_5 : tyPtr Try.prog 5 = false := by kernel_rfl
theorem map_5 : tyMap Try.prog 5 = none := by kernel_rfl
theorem pl_5 : tyPlaces Try.prog 5 = none := by kernel_rfl
theorem und_9 : (Program.underlying Try.prog 9).isSome = true := by kernel_rfl
theorem agg_9 : tyAgg Try.prog 9 = some false := by kernel_rfl
theorem sz_9 : tySize Try.prog 9 = some 1 := by kernel_rfl
theorem by_9 : tyBytes Try.prog 9 = some 16 := by kernel_rfl
theorem zero_9 : tyZero Try.prog 9 = some [.c (.str [])] := by kernel_rfl
theorem elem_9 : tyElem Try.prog 9 = none := by kernel_rfl
theorem arr_9 : tyArr Try.prog 9 = none := by kernel_rfl
theorem int_9 : tyInt Try.prog 9 = none := by kernel_rfl
theorem str_9 : tyStr Try.prog 9 = true := by kernel_rfl
theorem bool_9 : tyBool Try.prog 9 = false := by kernel_rfl
theorem ptr_9 : tyPtr Try.prog 9 = false := by kernel_rfl
theorem map_9 : tyMap Try.prog 9 = none := by kernel_rfl
theorem pl_9 : tyPlaces Try.prog 9 = none := by kernel_rfl
theorem und_25 : (Program.underlying Try.prog 25).isSome = true := by kernel_rfl
theorem agg_25 : tyAgg Try.prog 25 = some false := by kernel_rfl
theorem sz_25 : tySize Try.prog 25 = some 1 := by kernel_rfl
theorem by_25 : tyBytes Try.prog 25 = some 8 := by kernel_rfl
theorem zero_25 : tyZero Try.prog 25 = some [.c (.int .i64 0)] := by kernel_rfl
theorem elem_25 : tyElem Try.prog 25 = none := by kernel_rfl
theorem arr_25 : tyArr Try.prog 25 = none := by kernel_rfl
theorem int_25 : tyInt Try.prog 25 = some .i64 := by kernel_rfl
theorem str_25 : tyStr Try.prog 25 = false := by kernel_rfl
theorem bool_25 : tyBool Try.prog 25 = false := by kernel_rfl
theorem ptr_25 : tyPtr Try.prog 25 = false := by kernel_rfl
theorem map_25 : tyMap Try.prog 25 = none := by kernel_rfl
theorem pl_25 : tyPlaces Try.prog 25 = none := by kernel_rfl
theorem und_39 : (Program.underlying Try.prog 39).isSome = true := by kernel_rfl
theorem agg_39 : tyAgg Try.prog 39 = some false := by kernel_rfl
theorem sz_39 : tySize Try.prog 39 = some 1 := by kernel_rfl
theorem by_39 : tyBytes Try.prog 39 = some 24 := by kernel_rfl
theorem zero_39 : tyZero Try.prog 39 = some [.nilsl] := by kernel_rfl
theorem elem_39 : tyElem Try.prog 39 = some 46 := by kernel_rfl
theorem arr_39 : tyArr Try.prog 39 = none := by kernel_rfl
theorem int_39 : tyInt Try.prog 39 = none := by kernel_rfl
theorem str_39 : tyStr Try.prog 39 = false := by kernel_rfl
theorem bool_39 : tyBool Try.prog 39 = false := by kernel_rfl
theorem ptr_39 : tyPtr Try.prog 39 = false := by kernel_rfl
theorem map_39 : tyMap Try.prog 39 = none := by kernel_rfl
theorem pl_39 : tyPlaces Try.prog 39 = none := by kernel_rfl
theorem und_40 : (Program.underlying Try.prog 40).isSome = true := by kernel_rfl
theorem agg_40 : tyAgg Try.prog 40 = some false := by kernel_rfl
theorem sz_40 : tySize Try.prog 40 = some 1 := by kernel_rfl
theorem by_40 : tyBytes Try.prog 40 = some 8 := by kernel_rfl
theorem zero_40 : tyZero Try.prog 40 = some [.nilptr] := by kernel_rfl
theorem elem_40 : tyElem Try.prog 40 = none := by kernel_rfl
theorem arr_40 : tyArr Try.prog 40 = none := by kernel_rfl
theorem int_40 : tyInt Try.prog 40 = none := by kernel_rfl
theorem str_40 : tyStr Try.prog 40 = false := by kernel_rfl
theorem bool_40 : tyBool Try.prog 40 = false := by kernel_rfl
theorem ptr_40 : tyPtr Try.prog 40 = true := by kernel_rfl
theorem map_40 : tyMap Try.prog 40 = none := by kernel_rfl
theorem pl_40 : tyPlaces Try.prog 40 = none := by kernel_rfl
theorem und_42 : (Program.underlying Try.prog 42).isSome = true := by kernel_rfl
theorem agg_42 : tyAgg Try.prog 42 = some false := by kernel_rfl
theorem sz_42 : tySize Try.prog 42 = some 1 := by kernel_rfl
theorem by_42 : tyBytes Try.prog 42 = some 24 := by kernel_rfl
theorem zero_42 : tyZero Try.prog 42 = some [.nilsl] := by kernel_rfl
theorem elem_42 : tyElem Try.prog 42 = some 5 := by kernel_rfl
theorem arr_42 : tyArr Try.prog 42 = none := by kernel_rfl
theorem int_42 : tyInt Try.prog 42 = none := by kernel_rfl
theorem str_42 : tyStr Try.prog 42 = false := by kernel_rfl
theorem bool_42 : tyBool Try.prog 42 = false := by kernel_rfl
theorem ptr_42 : tyPtr Try.prog 42 = false := by kernel_rfl
theorem map_42 : tyMap Try.prog 42 = none := by kernel_rfl
theorem pl_42 : tyPlaces Try.prog 42 = none := by kernel_rfl
theorem und_44 : (Program.underlying Try.prog 44).isSome = true := by kernel_rfl
theorem agg_44 : tyAgg Try.prog 44 = some true := by kernel_rfl
theorem sz_44 : tySize Try.prog 44 = some 2 := by kernel_rfl
theorem by_44 : tyBytes Try.prog 44 = some 32 := by kernel_rfl
theorem zero_44 : tyZero Try.prog 44 = some [.nilsl, .c (.int .i64 0)] := by kernel_rfl
theorem elem_44 : tyElem Try.prog 44 = none := by kernel_rfl
theorem arr_44 : tyArr Try.prog 44 = none := by kernel_rfl
theorem int_44 : tyInt Try.prog 44 = none := by kernel_rfl
theorem str_44 : tyStr Try.prog 44 = false := by kernel_rfl
theorem bool_44 : tyBool Try.prog 44 = false := by kernel_rfl
theorem ptr_44 : tyPtr Try.prog 44 = false := by kernel_rfl
theorem map_44 : tyMap Try.prog 44 = none := by kernel_rfl
theorem fd_44_0 : tyField Try.prog 44 0 = some (0, 42, 1) := by kernel_rfl
theorem fd_44_1 : tyField Try.prog 44 1 = some (1, 3, 1) := by kernel_rfl
theorem pl_44 : tyPlaces Try.prog 44 = some [(0, 1), (1, 1)] := by kernel_rfl
theorem und_46 : (Program.underlying Try.prog 46).isSome = true := by kernel_rfl
theorem agg_46 : tyAgg Try.prog 46 = some true := by kernel_rfl
theorem sz_46 : tySize Try.prog 46 = some 3 := by kernel_rfl
theorem by_46 : tyBytes Try.prog 46 = some 32 := by kernel_rfl
theorem zero_46 : tyZero Try.prog 46 = some [.c (.int .i64 0), .c (.int .i64 0), .c (.str [])] := by kernel_rfl
theorem elem_46 : tyElem Try.prog 46 = none := by kernel_rfl
theorem arr_46 : tyArr Try.prog 46 = none := by kernel_rfl
theorem int_46 : tyInt Try.prog 46 = none := by kernel_rfl
theorem str_46 : tyStr Try.prog 46 = false := by kernel_rfl
theorem bool_46 : tyBool Try.prog 46 = false := by kernel_rfl
theorem ptr_46 : tyPtr Try.prog 46 = false := by kernel_rfl
theorem map_46 : tyMap Try.prog 46 = none := by kernel_rfl
theorem fd_46_0 : tyField Try.prog 46 0 = some (0, 3, 1) := by kernel_rfl
theorem fd_46_1 : tyField Try.prog 46 1 = some (1, 3, 1) := by kernel_rfl
theorem fd_46_2 : tyField Try.prog 46 2 = some (2, 9, 1) := by kernel_rfl
theorem pl_46 : tyPlaces Try.prog 46 = some [(0, 1), (1, 1), (2, 1)] := by kernel_rfl
theorem und_57 : (Program.underlying Try.prog 57).isSome = true := by kernel_rfl
theorem agg_57 : tyAgg Try.prog 57 = some false := by kernel_rfl
theorem sz_57 : tySize Try.prog 57 = some 1 := by kernel_rfl
theorem by_57 : tyBytes Try.prog 57 = some 8 := by kernel_rfl
theorem zero_57 : tyZero Try.prog 57 = some [.nilptr] := by kernel_rfl
theorem elem_57 : tyElem Try.prog 57 = none := by kernel_rfl
theorem arr_57 : tyArr Try.prog 57 = none := by kernel_rfl
theorem int_57 : tyInt Try.prog 57 = none := by kernel_rfl
theorem str_57 : tyStr Try.prog 57 = false := by kernel_rfl
theorem bool_57 : tyBool Try.prog 57 = false := by kernel_rfl
theorem ptr_57 : tyPtr Try.prog 57 = true := by kernel_rfl
theorem map_57 : tyMap Try.prog 57 = none := by kernel_rfl
theorem pl_57 : tyPlaces Try.prog 57 = none := by kernel_rfl
theorem und_59 : (Program.underlying Try.prog 59).isSome = true := by kernel_rfl
theorem agg_59 : tyAgg Try.prog 59 = some true := by kernel_rfl
theorem sz_59 : tySize Try.prog 59 = some 2 := by kernel_rfl
theorem by_59 : tyBytes Try.prog 59 = some 32 := by kernel_rfl
theorem zero_59 : tyZero Try.prog 59 = some [.nilsl, .c (.int .i64 0)] := by kernel_rfl
theorem elem_59 : tyElem Try.prog 59 = none := by kernel_rfl
theorem arr_59 : tyArr Try.prog 59 = none := by kernel_rfl
theorem int_59 : tyInt Try.prog 59 = none := by kernel_rfl
theorem str_59 : tyStr Try.prog 59 = false := by kernel_rfl
theorem bool_59 : tyBool Try.prog 59 = false := by kernel_rfl
theorem ptr_59 : tyPtr Try.prog 59 = false := by kernel_rfl
theorem map_59 : tyMap Try.prog 59 = none := by kernel_rfl
theorem fd_59_0 : tyField Try.prog 59 0 = some (0, 42, 1) := by kernel_rfl
theorem fd_59_1 : tyField Try.prog 59 1 = some (1, 3, 1) := by kernel_rfl
theorem pl_59 : tyPlaces Try.prog 59 = some [(0, 1), (1, 1)] := by kernel_rfl
theorem und_70 : (Program.underlying Try.prog 70).isSome = true := by kernel_rfl
theorem agg_70 : tyAgg Try.prog 70 = some true := by kernel_rfl
theorem sz_70 : tySize Try.prog 70 = some 3 := by kernel_rfl
theorem by_70 : tyBytes Try.prog 70 = some 40 := by kernel_rfl
theorem zero_70 : tyZero Try.prog 70 = some [.nilsl, .c (.int .i64 0), .c (.bool false)] := by kernel_rfl
theorem elem_70 : tyElem Try.prog 70 = none := by kernel_rfl
theorem arr_70 : tyArr Try.prog 70 = none := by kernel_rfl
theorem int_70 : tyInt Try.prog 70 = none := by kernel_rfl
theorem str_70 : tyStr Try.prog 70 = false := by kernel_rfl
theorem bool_70 : tyBool Try.prog 70 = false := by kernel_rfl
theorem ptr_70 : tyPtr Try.prog 70 = false := by kernel_rfl
theorem map_70 : tyMap Try.prog 70 = none := by kernel_rfl
theorem fd_70_0 : tyField Try.prog 70 0 = some (0, 42, 1) := by kernel_rfl
theorem fd_70_1 : tyField Try.prog 70 1 = some (1, 25, 1) := by kernel_rfl
theorem fd_70_2 : tyField Try.prog 70 2 = some (2, 4, 1) := by kernel_rfl
theorem pl_70 : tyPlaces Try.prog 70 = some [(0, 1), (1, 1), (2, 1)] := by kernel_rfl
theorem und_71 : (Program.underlying Try.prog 71).isSome = true := by kernel_rfl
theorem agg_71 : tyAgg Try.prog 71 = some false := by kernel_rfl
theorem sz_71 : tySize Try.prog 71 = some 1 := by kernel_rfl
theorem by_71 : tyBytes Try.prog 71 = some 24 := by kernel_rfl
theorem zero_71 : tyZero Try.prog 71 = some [.nilsl] := by kernel_rfl
theorem elem_71 : tyElem Try.prog 71 = some 40 := by kernel_rfl
theorem arr_71 : tyArr Try.prog 71 = none := by kernel_rfl
theorem int_71 : tyInt Try.prog 71 = none := by kernel_rfl
theorem str_71 : tyStr Try.prog 71 = false := by kernel_rfl
theorem bool_71 : tyBool Try.prog 71 = false := by kernel_rfl
theorem ptr_71 : tyPtr Try.prog 71 = false := by kernel_rfl
theorem map_71 : tyMap Try.prog 71 = none := by kernel_rfl
theorem pl_71 : tyPlaces Try.prog 71 = none := by kernel_rfl
theorem und_72 : (Program.underlying Try.prog 72).isSome = true := by kernel_rfl
theorem agg_72 : tyAgg Try.prog 72 = some true := by kernel_rfl
theorem sz_72 : tySize Try.prog 72 = some 3 := by kernel_rfl
theorem by_72 : tyBytes Try.prog 72 = some 40 := by kernel_rfl
theorem zero_72 : tyZero Try.prog 72 = some [.nilsl, .c (.int .i64 0), .c (.bool false)] := by kernel_rfl
theorem elem_72 : tyElem Try.prog 72 = none := by kernel_rfl
theorem arr_72 : tyArr Try.prog 72 = none := by kernel_rfl
theorem int_72 : tyInt Try.prog 72 = none := by kernel_rfl
theorem str_72 : tyStr Try.prog 72 = false := by kernel_rfl
theorem bool_72 : tyBool Try.prog 72 = false := by kernel_rfl
theorem ptr_72 : tyPtr Try.prog 72 = false := by kernel_rfl
theorem map_72 : tyMap Try.prog 72 = none := by kernel_rfl
theorem fd_72_0 : tyField Try.prog 72 0 = some (0, 42, 1) := by kernel_rfl
theorem fd_72_1 : tyField Try.prog 72 1 = some (1, 25, 1) := by kernel_rfl
theorem fd_72_2 : tyField Try.prog 72 2 = some (2, 4, 1) := by kernel_rfl
theorem pl_72 : tyPlaces Try.prog 72 = some [(0, 1), (1, 1), (2, 1)] := by kernel_rfl
theorem und_73 : (Program.underlying Try.prog 73).isSome = true := by kernel_rfl
theorem agg_73 : tyAgg Try.prog 73 = some false := by kernel_rfl
theorem sz_73 : tySize Try.prog 73 = some 1 := by kernel_rfl
theorem by_73 : tyBytes Try.prog 73 = some 24 := by kernel_rfl
theorem zero_73 : tyZero Try.prog 73 = some [.nilsl] := by kernel_rfl
theorem elem_73 : tyElem Try.prog 73 = some 57 := by kernel_rfl
theorem arr_73 : tyArr Try.prog 73 = none := by kernel_rfl
theorem int_73 : tyInt Try.prog 73 = none := by kernel_rfl
theorem str_73 : tyStr Try.prog 73 = false := by kernel_rfl
theorem bool_73 : tyBool Try.prog 73 = false := by kernel_rfl
theorem ptr_73 : tyPtr Try.prog 73 = false := by kernel_rfl
theorem map_73 : tyMap Try.prog 73 = none := by kernel_rfl
theorem pl_73 : tyPlaces Try.prog 73 = none := by kernel_rfl
theorem und_75 : (Program.underlying Try.prog 75).isSome = true := by kernel_rfl
theorem agg_75 : tyAgg Try.prog 75 = some false := by kernel_rfl
theorem sz_75 : tySize Try.prog 75 = some 1 := by kernel_rfl
theorem by_75 : tyBytes Try.prog 75 = some 24 := by kernel_rfl
theorem zero_75 : tyZero Try.prog 75 = some [.nilsl] := by kernel_rfl
theorem elem_75 : tyElem Try.prog 75 = some 9 := by kernel_rfl
theorem arr_75 : tyArr Try.prog 75 = none := by kernel_rfl
theorem int_75 : tyInt Try.prog 75 = none := by kernel_rfl
theorem str_75 : tyStr Try.prog 75 = false := by kernel_rfl
theorem bool_75 : tyBool Try.prog 75 = false := by kernel_rfl
theorem ptr_75 : tyPtr Try.prog 75 = false := by kernel_rfl
theorem map_75 : tyMap Try.prog 75 = none := by kernel_rfl
theorem pl_75 : tyPlaces Try.prog 75 = none := by kernel_rfl
theorem und_97 : (Program.underlying Try.prog 97).isSome = true := by kernel_rfl
theorem agg_97 : tyAgg Try.prog 97 = some false := by kernel_rfl
theorem sz_97 : tySize Try.prog 97 = some 1 := by kernel_rfl
theorem by_97 : tyBytes Try.prog 97 = some 8 := by kernel_rfl
theorem zero_97 : tyZero Try.prog 97 = some [.c (.int .u64 0)] := by kernel_rfl
theorem elem_97 : tyElem Try.prog 97 = none := by kernel_rfl
theorem arr_97 : tyArr Try.prog 97 = none := by kernel_rfl
theorem int_97 : tyInt Try.prog 97 = some .u64 := by kernel_rfl
theorem str_97 : tyStr Try.prog 97 = false := by kernel_rfl
theorem bool_97 : tyBool Try.prog 97 = false := by kernel_rfl
theorem ptr_97 : tyPtr Try.prog 97 = false := by kernel_rfl
theorem map_97 : tyMap Try.prog 97 = none := by kernel_rfl
theorem pl_97 : tyPlaces Try.prog 97 = none := by kernel_rfl
theorem und_110 : (Program.underlying Try.prog 110).isSome = true := by kernel_rfl
theorem agg_110 : tyAgg Try.prog 110 = some false := by kernel_rfl
theorem sz_110 : tySize Try.prog 110 = some 1 := by kernel_rfl
theorem by_110 : tyBytes Try.prog 110 = some 8 := by kernel_rfl
theorem zero_110 : tyZero Try.prog 110 = some [.c (.int .u64 0)] := by kernel_rfl
theorem elem_110 : tyElem Try.prog 110 = none := by kernel_rfl
theorem arr_110 : tyArr Try.prog 110 = none := by kernel_rfl
theorem int_110 : tyInt Try.prog 110 = some .u64 := by kernel_rfl
theorem str_110 : tyStr Try.prog 110 = false := by kernel_rfl
theorem bool_110 : tyBool Try.prog 110 = false := by kernel_rfl
theorem ptr_110 : tyPtr Try.prog 110 = false := by kernel_rfl
theorem map_110 : tyMap Try.prog 110 = none := by kernel_rfl
theorem pl_110 : tyPlaces Try.prog 110 = none := by kernel_rfl
theorem und_114 : (Program.underlying Try.prog 114).isSome = true := by kernel_rfl
theorem agg_114 : tyAgg Try.prog 114 = some false := by kernel_rfl
theorem sz_114 : tySize Try.prog 114 = some 1 := by kernel_rfl
theorem by_114 : tyBytes Try.prog 114 = some 24 := by kernel_rfl
theorem zero_114 : tyZero Try.prog 114 = some [.nilsl] := by kernel_rfl
theorem elem_114 : tyElem Try.prog 114 = some 42 := by kernel_rfl
theorem arr_114 : tyArr Try.prog 114 = none := by kernel_rfl
theorem int_114 : tyInt Try.prog 114 = none := by kernel_rfl
theorem str_114 : tyStr Try.prog 114 = false := by kernel_rfl
theorem bool_114 : tyBool Try.prog 114 = false := by kernel_rfl
theorem ptr_114 : tyPtr Try.prog 114 = false := by kernel_rfl
theorem map_114 : tyMap Try.prog 114 = none := by kernel_rfl
theorem pl_114 : tyPlaces Try.prog 114 = none := by kernel_rfl
theorem und_119 : (Program.underlying Try.prog 119).isSome = true := by kernel_rfl
theorem agg_119 : tyAgg Try.prog 119 = some false := by kernel_rfl
theorem sz_119 : tySize Try.prog 119 = some 1 := by kernel_rfl
theorem by_119 : tyBytes Try.prog 119 = some 4 := by kernel_rfl
theorem zero_119 : tyZero Try.prog 119 = some [.c (.int .u32 0)] := by kernel_rfl
theorem elem_119 : tyElem Try.prog 119 = none := by kernel_rfl
theorem arr_119 : tyArr Try.prog 119 = none := by kernel_rfl
theorem int_119 : tyInt Try.prog 119 = some .u32 := by kernel_rfl
theorem str_119 : tyStr Try.prog 119 = false := by kernel_rfl
theorem bool_119 : tyBool Try.prog 119 = false := by kernel_rfl
theorem ptr_119 : tyPtr Try.prog 119 = false := by kernel_rfl
theorem map_119 : tyMap Try.prog 119 = none := by kernel_rfl
theorem pl_119 : tyPlaces Try.prog 119 = none := by kernel_rfl
theorem und_120 : (Program.underlying Try.prog 120).isSome = true := by kernel_rfl
theorem agg_120 : tyAgg Try.prog 120 = some true := by kernel_rfl
theorem sz_120 : tySize Try.prog 120 = some 64 := by kernel_rfl
theorem by_120 : tyBytes Try.prog 120 = some 256 := by kernel_rfl
theorem zero_120 : tyZero Try.prog 120 = some (zrep 64 (.c (.int .u32 0))) := by kernel_rfl
theorem elem_120 : tyElem Try.prog 120 = none := by kernel_rfl
theorem arr_120 : tyArr Try.prog 120 = some (64, 119) := by kernel_rfl
theorem int_120 : tyInt Try.prog 120 = none := by kernel_rfl
theorem str_120 : tyStr Try.prog 120 = false := by kernel_rfl
theorem bool_120 : tyBool Try.prog 120 = false := by kernel_rfl
theorem ptr_120 : tyPtr Try.prog 120 = false := by kernel_rfl
theorem map_120 : tyMap Try.prog 120 = none := by kernel_rfl
theorem pl_120 : tyPlaces Try.prog 120 = none := by kernel_rfl
theorem und_122 : (Program.underlying Try.prog 122).isSome = true := by kernel_rfl
theorem agg_122 : tyAgg Try.prog 122 = some true := by kernel_rfl
theorem sz_122 : tySize Try.prog 122 = some 8 := by kernel_rfl
theorem by_122 : tyBytes Try.prog 122 = some 32 := by kernel_rfl
theorem zero_122 : tyZero Try.prog 122 = some [.c (.int .u32 0), .c (.int .u32 0), .c (.int .u32 0), .c (.int .u32 0), .c (.int .u32 0), .c (.int .u32 0), .c (.int .u32 0), .c (.int .u32 0)] := by kernel_rfl
theorem elem_122 : tyElem Try.prog 122 = none := by kernel_rfl
theorem arr_122 : tyArr Try.prog 122 = some (8, 119) := by kernel_rfl
theorem int_122 : tyInt Try.prog 122 = none := by kernel_rfl
theorem str_122 : tyStr Try.prog 122 = false := by kernel_rfl
theorem bool_122 : tyBool Try.prog 122 = false := by kernel_rfl
theorem ptr_122 : tyPtr Try.prog 122 = false := by kernel_rfl
theorem map_122 : tyMap Try.prog 122 = none := by kernel_rfl
theorem pl_122 : tyPlaces Try.prog 122 = none := by kernel_rfl
theorem und_124 : (Program.underlying Try.prog 124).isSome = true := by kernel_rfl
theorem agg_124 : tyAgg Try.prog 124 = some true := by kernel_rfl
theorem sz_124 : tySize Try.prog 124 = some 8 := by kernel_rfl
theorem by_124 : tyBytes Try.prog 124 = some 32 := by kernel_rfl
theorem zero_124 : tyZero Try.prog 124 = some [.c (.int .u32 0), .c (.int .u32 0), .c (.int .u32 0), .c (.int .u32 0), .c (.int .u32 0), .c (.int .u32 0), .c (.int .u32 0), .c (.int .u32 0)] := by kernel_rfl
theorem elem_124 : tyElem Try.prog 124 = none := by kernel_rfl
theorem arr_124 : tyArr Try.prog 124 = some (8, 119) := by kernel_rfl
theorem int_124 : tyInt Try.prog 124 = none := by kernel_rfl
theorem str_124 : tyStr Try.prog 124 = false := by kernel_rfl
theorem bool_124 : tyBool Try.prog 124 = false := by kernel_rfl
theorem ptr_124 : tyPtr Try.prog 124 = false := by kernel_rfl
theorem map_124 : tyMap Try.prog 124 = none := by kernel_rfl
theorem pl_124 : tyPlaces Try.prog 124 = none := by kernel_rfl
theorem und_127 : (Program.underlying Try.prog 127).isSome = true := by kernel_rfl
theorem agg_127 : tyAgg Try.prog 127 = some false := by kernel_rfl
theorem sz_127 : tySize Try.prog 127 = some 1 := by kernel_rfl
theorem by_127 : tyBytes Try.prog 127 = some 8 := by kernel_rfl
theorem zero_127 : tyZero Try.prog 127 = some [.nilptr] := by kernel_rfl
theorem elem_127 : tyElem Try.prog 127 = none := by kernel_rfl
theorem arr_127 : tyArr Try.prog 127 = none := by kernel_rfl
theorem int_127 : tyInt Try.prog 127 = none := by kernel_rfl
theorem str_127 : tyStr Try.prog 127 = false := by kernel_rfl
theorem bool_127 : tyBool Try.prog 127 = false := by kernel_rfl
theorem ptr_127 : tyPtr Try.prog 127 = true := by kernel_rfl
theorem map_127 : tyMap Try.prog 127 = none := by kernel_rfl
theorem pl_127 : tyPlaces Try.prog 127 = none := by kernel_rfl
theorem und_129 : (Program.underlying Try.prog 129).isSome = true := by kernel_rfl
theorem agg_129 : tyAgg Try.prog 129 = some false := by kernel_rfl
theorem sz_129 : tySize Try.prog 129 = some 1 := by kernel_rfl
theorem by_129 : tyBytes Try.prog 129 = some 24 := by kernel_rfl
theorem zero_129 : tyZero Try.prog 129 = some [.nilsl] := by kernel_rfl
theorem elem_129 : tyElem Try.prog 129 = some 119 := by kernel_rfl
theorem arr_129 : tyArr Try.prog 129 = none := by kernel_rfl
theorem int_129 : tyInt Try.prog 129 = none := by kernel_rfl
theorem str_129 : tyStr Try.prog 129 = false := by kernel_rfl
theorem bool_129 : tyBool Try.prog 129 = false := by kernel_rfl
theorem ptr_129 : tyPtr Try.prog 129 = false := by kernel_rfl
theorem map_129 : tyMap Try.prog 129 = none := by kernel_rfl
theorem pl_129 : tyPlaces Try.prog 129 = none := by kernel_rfl
theorem nt_21 : Try.f21.ntmps = 3 := by kernel_rfl
theorem rs_21 : Try.f21.results.toList = [.tmp 0] := by kernel_rfl
theorem nt_52 : Try.f52.ntmps = 13 := by kernel_rfl
theorem rs_52 : Try.f52.results.toList = [] := by kernel_rfl
theorem nt_22 : Try.f22.ntmps = 40 := by kernel_rfl
theorem rs_22 : Try.f22.results.toList = [] := by kernel_rfl
theorem nt_24 : Try.f24.ntmps = 40 := by kernel_rfl
theorem rs_24 : Try.f24.results.toList = [] := by kernel_rfl
theorem nt_26 : Try.f26.ntmps = 36 := by kernel_rfl
theorem rs_26 : Try.f26.results.toList = [.tmp 2, .tmp 3] := by kernel_rfl
theorem nt_30 : Try.f30.ntmps = 7 := by kernel_rfl
theorem rs_30 : Try.f30.results.toList = [.tmp 2] := by kernel_rfl
theorem nt_57 : Try.f57.ntmps = 18 := by kernel_rfl
theorem rs_57 : Try.f57.results.toList = [.tmp 2] := by kernel_rfl
theorem nt_60 : Try.f60.ntmps = 11 := by kernel_rfl
theorem rs_60 : Try.f60.results.toList = [] := by kernel_rfl
theorem nt_59 : Try.f59.ntmps = 32 := by kernel_rfl
theorem rs_59 : Try.f59.results.toList = [.tmp 4] := by kernel_rfl
theorem nt_32 : Try.f32.ntmps = 34 := by kernel_rfl
theorem rs_32 : Try.f32.results.toList = [.tmp 4] := by kernel_rfl
theorem nt_34 : Try.f34.ntmps = 37 := by kernel_rfl
theorem rs_34 : Try.f34.results.toList = [.tmp 4] := by kernel_rfl
theorem nt_35 : Try.f35.ntmps = 16 := by kernel_rfl
theorem rs_35 : Try.f35.results.toList = [.tmp 2] := by kernel_rfl
theorem nt_36 : Try.f36.ntmps = 11 := by kernel_rfl
theorem rs_36 : Try.f36.results.toList = [.tmp 2] := by kernel_rfl
theorem nt_55 : Try.f55.ntmps = 8 := by kernel_rfl
theorem rs_55 : Try.f55.results.toList = [.tmp 2] := by kernel_rfl
theorem nt_53 : Try.f53.ntmps = 26 := by kernel_rfl
theorem rs_53 : Try.f53.results.toList = [.tmp 4] := by kernel_rfl
theorem nt_58 : Try.f58.ntmps = 21 := by kernel_rfl
theorem rs_58 : Try.f58.results.toList = [.tmp 2] := by kernel_rfl
theorem nt_67 : Try.f67.ntmps = 4 := by kernel_rfl
theorem rs_67 : Try.f67.results.toList = [.tmp 2] := by kernel_rfl
theorem nt_73 : Try.f73.ntmps = 19 := by kernel_rfl
theorem rs_73 : Try.f73.results.toList = [] := by kernel_rfl
theorem nt_54 : Try.f54.ntmps = 29 := by kernel_rfl
theorem rs_54 : Try.f54.results.toList = [.tmp 4] := by kernel_rfl
theorem nt_56 : Try.f56.ntmps = 22 := by kernel_rfl
theorem rs_56 : Try.f56.results.toList = [.tmp 2] := by kernel_rfl
theorem nt_23 : Try.f23.ntmps = 29 := by kernel_rfl
theorem rs_23 : Try.f23.results.toList = [.cell 4 44] := by kernel_rfl
theorem nt_25 : Try.f25.ntmps = 29 := by kernel_rfl
theorem rs_25 : Try.f25.results.toList = [.cell 4 44] := by kernel_rfl
theorem nt_27 : Try.f27.ntmps = 15 := by kernel_rfl
theorem rs_27 : Try.f27.results.toList = [.tmp 2, .tmp 3] := by kernel_rfl
theorem nt_31 : Try.f31.ntmps = 33 := by kernel_rfl
theorem rs_31 : Try.f31.results.toList = [.tmp 4, .cell 5 59] := by kernel_rfl
theorem nt_33 : Try.f33.ntmps = 47 := by kernel_rfl
theorem rs_33 : Try.f33.results.toList = [.tmp 4, .cell 5 59] := by kernel_rfl
theorem nt_28 : Try.f28.ntmps = 4 := by kernel_rfl
theorem rs_28 : Try.f28.results.toList = [.tmp 2] := by kernel_rfl
theorem nt_29 : Try.f29.ntmps = 20 := by kernel_rfl
theorem rs_29 : Try.f29.results.toList = [.tmp 0] := by kernel_rfl
theorem nt_5 : Try.f5.ntmps = 79 := by kernel_rfl
theorem rs_5 : Try.f5.results.toList = [.tmp 2] := by kernel_rfl
theorem nt_6 : Try.f6.ntmps = 103 := by kernel_rfl
theorem rs_6 : Try.f6.results.toList = [.tmp 4] := by kernel_rfl
theorem nt_8 : Try.f8.ntmps = 108 := by kernel_rfl
theorem rs_8 : Try.f8.results.toList = [.tmp 2] := by kernel_rfl
theorem nt_7 : Try.f7.ntmps = 86 := by kernel_rfl
theorem rs_7 : Try.f7.results.toList = [.tmp 4] := by kernel_rfl
theorem nt_88 : Try.f88.ntmps = 33 := by kernel_rfl
theorem rs_88 : Try.f88.results.toList = [.tmp 4] := by kernel_rfl
theorem nt_83 : Try.f83.ntmps = 32 := by kernel_rfl
theorem rs_83 : Try.f83.results.toList = [.tmp 2] := by kernel_rfl
theorem nt_75 : Try.f75.ntmps = 5 := by kernel_rfl
theorem rs_75 : Try.f75.results.toList = [.tmp 2] := by kernel_rfl
theorem nt_84 : Try.f84.ntmps = 36 := by kernel_rfl
theorem rs_84 : Try.f84.results.toList = [.tmp 2] := by kernel_rfl
theorem nt_87 : Try.f87.ntmps = 27 := by kernel_rfl
theorem rs_87 : Try.f87.results.toList = [.tmp 4] := by kernel_rfl
theorem nt_89 : Try.f89.ntmps = 17 := by kernel_rfl
theorem rs_89 : Try.f89.results.toList = [.tmp 4] := by kernel_rfl
theorem nt_86 : Try.f86.ntmps = 9 := by kernel_rfl
theorem rs_86 : Try.f86.results.toList = [.tmp 4] := by kernel_rfl
theorem nt_85 : Try.f85.ntmps = 64 := by kernel_rfl
theorem rs_85 : Try.f85.results.toList = [.cell 2 120] := by kernel_rfl
theorem nt_79 : Try.f79.ntmps = 2 := by kernel_rfl
theorem rs_79 : Try.f79.results.toList = [.cell 0 124] := by kernel_rfl
theorem nt_80 : Try.f80.ntmps = 2 := by kernel_rfl
theorem rs_80 : Try.f80.results.toList = [.cell 0 120] := by kernel_rfl
theorem nt_81 : Try.f81.ntmps = 19 := by kernel_rfl
theorem rs_81 : Try.f81.results.toList = [.tmp 2] := by kernel_rfl
theorem nt_82 : Try.f82.ntmps = 119 := by kernel_rfl
theorem rs_82 : Try.f82.results.toList = [.cell 6 124] := by kernel_rfl
theorem nt_74 : Try.f74.ntmps = 21 := by kernel_rfl
theorem rs_74 : Try.f74.results.toList = [.tmp 2] := by kernel_rfl
theorem nt_68 : Try.f68.ntmps = 7 := by kernel_rfl
theorem rs_68 : Try.f68.results.toList = [.tmp 2] := by kernel_rfl
theorem nt_61 : Try.f61.ntmps = 6 := by kernel_rfl
theorem rs_61 : Try.f61.results.toList = [.tmp 2] := by kernel_rfl
theorem nt_70 : Try.f70.ntmps = 239 := by kernel_rfl
theorem rs_70 : Try.f70.results.toList = [.tmp 2] := by kernel_rfl
theorem nt_76 : Try.f76.ntmps = 2 := by kernel_rfl
theorem rs_76 : Try.f76.results.toList = [.cell 0 120] := by kernel_rfl
theorem nt_77 : Try.f77.ntmps = 22 := by kernel_rfl
theorem rs_77 : Try.f77.results.toList = [.tmp 2] := by kernel_rfl
theorem nt_78 : Try.f78.ntmps = 13 := by kernel_rfl
theorem rs_78 : Try.f78.results.toList = [.tmp 4] := by kernel_rfl
theorem nt_63 : Try.f63.ntmps = 7 := by kernel_rfl
theorem rs_63 : Try.f63.results.toList = [.tmp 2] := by kernel_rfl
theorem nt_37 : Try.f37.ntmps = 26 := by kernel_rfl
theorem rs_37 : Try.f37.results.toList = [.tmp 0] := by kernel_rfl
theorem nt_38 : Try.f38.ntmps = 25 := by kernel_rfl
theorem rs_38 : Try.f38.results.toList = [.tmp 2] := by kernel_rfl
theorem nt_39 : Try.f39.ntmps = 15 := by kernel_rfl
theorem rs_39 : Try.f39.results.toList = [.tmp 2] := by kernel_rfl
theorem nt_40 : Try.f40.ntmps = 42 := by kernel_rfl
theorem rs_40 : Try.f40.results.toList = [.tmp 4, .tmp 5] := by kernel_rfl
theorem nt_46 : Try.f46.ntmps = 36 := by kernel_rfl
theorem rs_46 : Try.f46.results.toList = [.tmp 6] := by kernel_rfl
theorem nt_62 : Try.f62.ntmps = 4 := by kernel_rfl
theorem rs_62 : Try.f62.results.toList = [.tmp 2] := by kernel_rfl
theorem nt_69 : Try.f69.ntmps = 13 := by kernel_rfl
theorem rs_69 : Try.f69.results.toList = [] := by kernel_rfl
theorem nt_41 : Try.f41.ntmps = 53 := by kernel_rfl
theorem rs_41 : Try.f41.results.toList = [.tmp 4, .tmp 5] := by kernel_rfl
theorem nt_43 : Try.f43.ntmps = 39 := by kernel_rfl
theorem rs_43 : Try.f43.results.toList = [.tmp 2] := by kernel_rfl
theorem nt_44 : Try.f44.ntmps = 14 := by kernel_rfl
theorem rs_44 : Try.f44.results.toList = [.tmp 2] := by kernel_rfl
theorem nt_47 : Try.f47.ntmps = 38 := by kernel_rfl
theorem rs_47 : Try.f47.results.toList = [.tmp 6] := by kernel_rfl
theorem nt_42 : Try.f42.ntmps = 26 := by kernel_rfl
theorem rs_42 : Try.f42.results.toList = [.tmp 4] := by kernel_rfl
theorem nt_45 : Try.f45.ntmps = 4 := by kernel_rfl
theorem rs_45 : Try.f45.results.toList = [.tmp 2] := by kernel_rfl
theorem nt_9 : Try.f9.ntmps = 25 := by kernel_rfl
theorem rs_9 : Try.f9.results.toList = [.tmp 2] := by kernel_rfl
theorem nt_10 : Try.f10.ntmps = 65 := by kernel_rfl
theorem rs_10 : Try.f10.results.toList = [.tmp 4] := by kernel_rfl
theorem nt_11 : Try.f11.ntmps = 62 := by kernel_rfl
theorem rs_11 : Try.f11.results.toList = [.tmp 8] := by kernel_rfl
theorem nt_12 : Try.f12.ntmps = 31 := by kernel_rfl
theorem rs_12 : Try.f12.results.toList = [.tmp 4] := by kernel_rfl
theorem mixed : Try.prog.follows .mixedOrders = true := by kernel_rfl
end Go.Proofs.Ytacglboiodolkaa.AM
