/- The types, as the engine reads them. -/
import Derived.Test.YtdjdbjcapenjeaaDx3
import Derived.Test.YtdjdbjcapenjeaaProg
namespace Go.Proofs.Ytdjdbjcapenjeaa.Dx.TYtdjdbjcapenjeaa
open Go Go.Proofs Go.Proofs.Ytdjdbjcapenjeaa.Dx

def t0 : TI := ⟨.tuple #[], 1, 0, none⟩
def t3 : TI := ⟨.int .i64, 1, 8, some (.int .i64)⟩
def t4 : TI := ⟨.bool, 1, 1, some .bool⟩
def t5 : TI := ⟨.int .u8, 1, 1, some (.int .u8)⟩
def t9 : TI := ⟨.string, 1, 16, some .str⟩
def t22 : TI := ⟨.int .u8, 1, 1, some (.int .u8)⟩
def t23 : TI := ⟨.int .u64, 1, 8, some (.int .u64)⟩
def t24 : TI := ⟨.int .u8, 1, 1, some (.int .u8)⟩
def t25 : TI := ⟨.slice 5, 1, 24, some (.sl (.int .u8))⟩
def t27 : TI := ⟨.struct #[⟨"Kind", 24, 0, false, "", "", 0⟩, ⟨"Key", 23, 1, false, "", "", 8⟩, ⟨"Hi", 23, 2, false, "", "", 16⟩, ⟨"Value", 25, 3, false, "", "", 24⟩, ⟨"Old", 25, 4, false, "", "", 48⟩, ⟨"Has", 4, 5, false, "", "", 72⟩, ⟨"Limit", 5, 6, false, "", "", 73⟩], 7, 80, some (.pair (.int .u8) (.pair (.int .u64) (.pair (.int .u64) (.pair (.sl (.int .u8)) (.pair (.sl (.int .u8)) (.pair .bool (.pair (.int .u8) .unit)))))))⟩
def t28 : TI := ⟨.int .u8, 1, 1, some (.int .u8)⟩
def t30 : TI := ⟨.struct #[⟨"Who", 22, 0, false, "", "", 0⟩, ⟨"Seq", 23, 1, false, "", "", 8⟩, ⟨"Req", 27, 2, false, "", "", 16⟩, ⟨"Status", 28, 9, false, "", "", 96⟩, ⟨"Value", 25, 10, false, "", "", 104⟩, ⟨"Begin", 3, 11, false, "", "", 128⟩, ⟨"End", 3, 12, false, "", "", 136⟩], 13, 144, some (.pair (.int .u8) (.pair (.int .u64) (.pair (.pair (.int .u8) (.pair (.int .u64) (.pair (.int .u64) (.pair (.sl (.int .u8)) (.pair (.sl (.int .u8)) (.pair .bool (.pair (.int .u8) .unit))))))) (.pair (.int .u8) (.pair (.sl (.int .u8)) (.pair (.int .i64) (.pair (.int .i64) .unit)))))))⟩
def t31 : TI := ⟨.tuple #[4, 4, 25], 1, 0, none⟩
def t33 : TI := ⟨.slice 30, 1, 24, some (.sl ((.pair (.int .u8) (.pair (.int .u64) (.pair (.pair (.int .u8) (.pair (.int .u64) (.pair (.int .u64) (.pair (.sl (.int .u8)) (.pair (.sl (.int .u8)) (.pair .bool (.pair (.int .u8) .unit))))))) (.pair (.int .u8) (.pair (.sl (.int .u8)) (.pair (.int .i64) (.pair (.int .i64) .unit)))))))))⟩
def t39 : TI := ⟨.slice 40, 1, 24, some (.sl ((.sl (.int .i64))))⟩
def t40 : TI := ⟨.slice 3, 1, 24, some (.sl (.int .i64))⟩
def t41 : TI := ⟨.int .i64, 1, 8, some (.int .i64)⟩
def t42 : TI := ⟨.tuple #[40, 41], 1, 0, none⟩
def t44 : TI := ⟨.tuple #[40, 3], 1, 0, none⟩
def t51 : TI := ⟨.struct #[⟨"Ok", 4, 0, false, "", "", 0⟩, ⟨"Key", 23, 1, false, "", "", 8⟩, ⟨"Order", 40, 2, false, "", "", 16⟩], 3, 40, some (.pair .bool (.pair (.int .u64) (.pair (.sl (.int .i64)) .unit)))⟩
def t52 : TI := ⟨.tuple #[51, 41], 1, 0, none⟩
def t54 : TI := ⟨.tuple #[51, 3], 1, 0, none⟩
def t58 : TI := ⟨.func #[30] #[4] false, 1, 8, some .nilf⟩
def t60 : TI := ⟨.struct #[⟨"Has", 4, 0, false, "", "", 0⟩, ⟨"Value", 25, 1, false, "", "", 8⟩], 2, 32, some (.pair .bool (.pair (.sl (.int .u8)) .unit))⟩
def t61 : TI := ⟨.tuple #[4, 60], 1, 0, none⟩
def t64 : TI := ⟨.struct #[⟨"has", 4, 0, false, "", "shard/linear", 0⟩, ⟨"value", 25, 1, false, "", "shard/linear", 8⟩], 2, 32, some (.pair .bool (.pair (.sl (.int .u8)) .unit))⟩
def t65 : TI := ⟨.tuple #[64, 4], 1, 0, none⟩
def t67 : TI := ⟨.pointer 30, 1, 8, some .nilp⟩
def t68 : TI := ⟨.slice 72, 1, 24, some (.sl ((.pair (.sl (.int .i64)) (.pair (.int .i64) .unit))))⟩
def t69 : TI := ⟨.tuple #[68, 4], 1, 0, none⟩
def t72 : TI := ⟨.struct #[⟨"order", 40, 0, false, "", "shard/linear", 0⟩, ⟨"at", 3, 1, false, "", "shard/linear", 24⟩], 2, 32, some (.pair (.sl (.int .i64)) (.pair (.int .i64) .unit))⟩
def t77 : TI := ⟨.map 23 64, 1, 8, some .nilm⟩
def t79 : TI := ⟨.slice 60, 1, 24, some (.sl ((.pair .bool (.pair (.sl (.int .u8)) .unit))))⟩
def t80 : TI := ⟨.tuple #[40, 4], 1, 0, none⟩
def t82 : TI := ⟨.tuple #[3, 60], 1, 0, none⟩
def t85 : TI := ⟨.slice 28, 1, 24, some (.sl (.int .u8))⟩
def t89 : TI := ⟨.pointer 27, 1, 8, some .nilp⟩
def t91 : TI := ⟨.map 23 3, 1, 8, some .nilm⟩
def t92 : TI := ⟨.tuple #[3, 4], 1, 0, none⟩
def t93 : TI := ⟨.pointer 98, 1, 8, some .nilp⟩
def t94 : TI := ⟨.slice 95, 1, 24, some (.sl (.int .u32))⟩
def t95 : TI := ⟨.int .u32, 1, 4, some (.int .u32)⟩
def t96 : TI := ⟨.slice 25, 1, 24, some (.sl ((.sl (.int .u8))))⟩
def t98 : TI := ⟨.struct #[⟨"calls", 33, 0, false, "", "shard/linear", 0⟩, ⟨"must", 95, 1, false, "", "shard/linear", 24⟩, ⟨"ahead", 94, 2, false, "", "shard/linear", 32⟩, ⟨"values", 96, 3, false, "", "shard/linear", 56⟩, ⟨"failed", 94, 4, false, "", "shard/linear", 80⟩, ⟨"order", 40, 5, false, "", "shard/linear", 104⟩], 6, 128, some (.pair .nl (.pair (.int .u32) (.pair .nl (.pair .nl (.pair .nl (.pair .nl .unit))))))⟩
def t101 : TI := ⟨.pointer 103, 1, 8, some .nilp⟩
def t103 : TI := ⟨.struct #[⟨"calls", 33, 0, false, "", "shard/shardref14", 0⟩, ⟨"can", 25, 1, false, "", "shard/shardref14", 24⟩], 2, 48, some (.pair (.sl ((.pair (.int .u8) (.pair (.int .u64) (.pair (.pair (.int .u8) (.pair (.int .u64) (.pair (.int .u64) (.pair (.sl (.int .u8)) (.pair (.sl (.int .u8)) (.pair .bool (.pair (.int .u8) .unit))))))) (.pair (.int .u8) (.pair (.sl (.int .u8)) (.pair (.int .i64) (.pair (.int .i64) .unit))))))))) (.pair (.sl (.int .u8)) .unit))⟩
def t106 : TI := ⟨.tuple #[4, 3], 1, 0, none⟩
def ti : List (Nat × TI) := [(0, t0), (3, t3), (4, t4), (5, t5), (9, t9), (22, t22), (23, t23), (24, t24), (25, t25), (27, t27), (28, t28), (30, t30), (31, t31), (33, t33), (39, t39), (40, t40), (41, t41), (42, t42), (44, t44), (51, t51), (52, t52), (54, t54), (58, t58), (60, t60), (61, t61), (64, t64), (65, t65), (67, t67), (68, t68), (69, t69), (72, t72), (77, t77), (79, t79), (80, t80), (82, t82), (85, t85), (89, t89), (91, t91), (92, t92), (93, t93), (94, t94), (95, t95), (96, t96), (98, t98), (101, t101), (103, t103), (106, t106)]
theorem e0 : Entry Try.prog 0 t0 := ⟨Try.underlying0, by kernel_rfl, by kernel_rfl, trivial⟩
theorem e3 : Entry Try.prog 3 t3 := ⟨Try.underlying3, by kernel_rfl, by kernel_rfl, by kernel_rfl, rfl, rfl⟩
theorem e4 : Entry Try.prog 4 t4 := ⟨Try.underlying4, by kernel_rfl, by kernel_rfl, by kernel_rfl, rfl, rfl⟩
theorem e5 : Entry Try.prog 5 t5 := ⟨Try.underlying5, by kernel_rfl, by kernel_rfl, by kernel_rfl, rfl, rfl⟩
theorem e9 : Entry Try.prog 9 t9 := ⟨Try.underlying9, by kernel_rfl, by kernel_rfl, by kernel_rfl, rfl, rfl⟩
theorem e22 : Entry Try.prog 22 t22 := ⟨Try.underlying22, by kernel_rfl, by kernel_rfl, by kernel_rfl, rfl, rfl⟩
theorem e23 : Entry Try.prog 23 t23 := ⟨Try.underlying23, by kernel_rfl, by kernel_rfl, by kernel_rfl, rfl, rfl⟩
theorem e24 : Entry Try.prog 24 t24 := ⟨Try.underlying24, by kernel_rfl, by kernel_rfl, by kernel_rfl, rfl, rfl⟩
theorem e25 : Entry Try.prog 25 t25 := ⟨Try.underlying25, by kernel_rfl, by kernel_rfl, by kernel_rfl, rfl, rfl⟩
theorem e27 : Entry Try.prog 27 t27 := ⟨Try.underlying27, by kernel_rfl, by kernel_rfl, by kernel_rfl, rfl, rfl⟩
theorem e28 : Entry Try.prog 28 t28 := ⟨Try.underlying28, by kernel_rfl, by kernel_rfl, by kernel_rfl, rfl, rfl⟩
theorem e30 : Entry Try.prog 30 t30 := ⟨Try.underlying30, by kernel_rfl, by kernel_rfl, by kernel_rfl, rfl, rfl⟩
theorem e31 : Entry Try.prog 31 t31 := ⟨Try.underlying31, by kernel_rfl, by kernel_rfl, trivial⟩
theorem e33 : Entry Try.prog 33 t33 := ⟨Try.underlying33, by kernel_rfl, by kernel_rfl, by kernel_rfl, rfl, rfl⟩
theorem e39 : Entry Try.prog 39 t39 := ⟨Try.underlying39, by kernel_rfl, by kernel_rfl, by kernel_rfl, rfl, rfl⟩
theorem e40 : Entry Try.prog 40 t40 := ⟨Try.underlying40, by kernel_rfl, by kernel_rfl, by kernel_rfl, rfl, rfl⟩
theorem e41 : Entry Try.prog 41 t41 := ⟨Try.underlying41, by kernel_rfl, by kernel_rfl, by kernel_rfl, rfl, rfl⟩
theorem e42 : Entry Try.prog 42 t42 := ⟨Try.underlying42, by kernel_rfl, by kernel_rfl, trivial⟩
theorem e44 : Entry Try.prog 44 t44 := ⟨Try.underlying44, by kernel_rfl, by kernel_rfl, trivial⟩
theorem e51 : Entry Try.prog 51 t51 := ⟨Try.underlying51, by kernel_rfl, by kernel_rfl, by kernel_rfl, rfl, rfl⟩
theorem e52 : Entry Try.prog 52 t52 := ⟨Try.underlying52, by kernel_rfl, by kernel_rfl, trivial⟩
theorem e54 : Entry Try.prog 54 t54 := ⟨Try.underlying54, by kernel_rfl, by kernel_rfl, trivial⟩
theorem e58 : Entry Try.prog 58 t58 := ⟨Try.underlying58, by kernel_rfl, by kernel_rfl, by kernel_rfl, rfl, rfl⟩
theorem e60 : Entry Try.prog 60 t60 := ⟨Try.underlying60, by kernel_rfl, by kernel_rfl, by kernel_rfl, rfl, rfl⟩
theorem e61 : Entry Try.prog 61 t61 := ⟨Try.underlying61, by kernel_rfl, by kernel_rfl, trivial⟩
theorem e64 : Entry Try.prog 64 t64 := ⟨Try.underlying64, by kernel_rfl, by kernel_rfl, by kernel_rfl, rfl, rfl⟩
theorem e65 : Entry Try.prog 65 t65 := ⟨Try.underlying65, by kernel_rfl, by kernel_rfl, trivial⟩
theorem e67 : Entry Try.prog 67 t67 := ⟨Try.underlying67, by kernel_rfl, by kernel_rfl, by kernel_rfl, rfl, rfl⟩
theorem e68 : Entry Try.prog 68 t68 := ⟨Try.underlying68, by kernel_rfl, by kernel_rfl, by kernel_rfl, rfl, rfl⟩
theorem e69 : Entry Try.prog 69 t69 := ⟨Try.underlying69, by kernel_rfl, by kernel_rfl, trivial⟩
theorem e72 : Entry Try.prog 72 t72 := ⟨Try.underlying72, by kernel_rfl, by kernel_rfl, by kernel_rfl, rfl, rfl⟩
theorem e77 : Entry Try.prog 77 t77 := ⟨Try.underlying77, by kernel_rfl, by kernel_rfl, by kernel_rfl, rfl, rfl⟩
theorem e79 : Entry Try.prog 79 t79 := ⟨Try.underlying79, by kernel_rfl, by kernel_rfl, by kernel_rfl, rfl, rfl⟩
theorem e80 : Entry Try.prog 80 t80 := ⟨Try.underlying80, by kernel_rfl, by kernel_rfl, trivial⟩
theorem e82 : Entry Try.prog 82 t82 := ⟨Try.underlying82, by kernel_rfl, by kernel_rfl, trivial⟩
theorem e85 : Entry Try.prog 85 t85 := ⟨Try.underlying85, by kernel_rfl, by kernel_rfl, by kernel_rfl, rfl, rfl⟩
theorem e89 : Entry Try.prog 89 t89 := ⟨Try.underlying89, by kernel_rfl, by kernel_rfl, by kernel_rfl, rfl, rfl⟩
theorem e91 : Entry Try.prog 91 t91 := ⟨Try.underlying91, by kernel_rfl, by kernel_rfl, by kernel_rfl, rfl, rfl⟩
theorem e92 : Entry Try.prog 92 t92 := ⟨Try.underlying92, by kernel_rfl, by kernel_rfl, trivial⟩
theorem e93 : Entry Try.prog 93 t93 := ⟨Try.underlying93, by kernel_rfl, by kernel_rfl, by kernel_rfl, rfl, rfl⟩
theorem e94 : Entry Try.prog 94 t94 := ⟨Try.underlying94, by kernel_rfl, by kernel_rfl, by kernel_rfl, rfl, rfl⟩
theorem e95 : Entry Try.prog 95 t95 := ⟨Try.underlying95, by kernel_rfl, by kernel_rfl, by kernel_rfl, rfl, rfl⟩
theorem e96 : Entry Try.prog 96 t96 := ⟨Try.underlying96, by kernel_rfl, by kernel_rfl, by kernel_rfl, rfl, rfl⟩
theorem e98 : Entry Try.prog 98 t98 := ⟨Try.underlying98, by kernel_rfl, by kernel_rfl, by kernel_rfl, rfl, rfl⟩
theorem e101 : Entry Try.prog 101 t101 := ⟨Try.underlying101, by kernel_rfl, by kernel_rfl, by kernel_rfl, rfl, rfl⟩
theorem e103 : Entry Try.prog 103 t103 := ⟨Try.underlying103, by kernel_rfl, by kernel_rfl, by kernel_rfl, rfl, rfl⟩
theorem e106 : Entry Try.prog 106 t106 := ⟨Try.underlying106, by kernel_rfl, by kernel_rfl, trivial⟩
theorem tiOK : ∀ p ∈ ti, Entry Try.prog p.1 p.2 := List.forall_mem_cons.2 ⟨e0, List.forall_mem_cons.2 ⟨e3, List.forall_mem_cons.2 ⟨e4, List.forall_mem_cons.2 ⟨e5, List.forall_mem_cons.2 ⟨e9, List.forall_mem_cons.2 ⟨e22, List.forall_mem_cons.2 ⟨e23, List.forall_mem_cons.2 ⟨e24, List.forall_mem_cons.2 ⟨e25, List.forall_mem_cons.2 ⟨e27, List.forall_mem_cons.2 ⟨e28, List.forall_mem_cons.2 ⟨e30, List.forall_mem_cons.2 ⟨e31, List.forall_mem_cons.2 ⟨e33, List.forall_mem_cons.2 ⟨e39, List.forall_mem_cons.2 ⟨e40, List.forall_mem_cons.2 ⟨e41, List.forall_mem_cons.2 ⟨e42, List.forall_mem_cons.2 ⟨e44, List.forall_mem_cons.2 ⟨e51, List.forall_mem_cons.2 ⟨e52, List.forall_mem_cons.2 ⟨e54, List.forall_mem_cons.2 ⟨e58, List.forall_mem_cons.2 ⟨e60, List.forall_mem_cons.2 ⟨e61, List.forall_mem_cons.2 ⟨e64, List.forall_mem_cons.2 ⟨e65, List.forall_mem_cons.2 ⟨e67, List.forall_mem_cons.2 ⟨e68, List.forall_mem_cons.2 ⟨e69, List.forall_mem_cons.2 ⟨e72, List.forall_mem_cons.2 ⟨e77, List.forall_mem_cons.2 ⟨e79, List.forall_mem_cons.2 ⟨e80, List.forall_mem_cons.2 ⟨e82, List.forall_mem_cons.2 ⟨e85, List.forall_mem_cons.2 ⟨e89, List.forall_mem_cons.2 ⟨e91, List.forall_mem_cons.2 ⟨e92, List.forall_mem_cons.2 ⟨e93, List.forall_mem_cons.2 ⟨e94, List.forall_mem_cons.2 ⟨e95, List.forall_mem_cons.2 ⟨e96, List.forall_mem_cons.2 ⟨e98, List.forall_mem_cons.2 ⟨e101, List.forall_mem_cons.2 ⟨e103, List.forall_mem_cons.2 ⟨e106, fun _ h => nomatch h⟩⟩⟩⟩⟩⟩⟩⟩⟩⟩⟩⟩⟩⟩⟩⟩⟩⟩⟩⟩⟩⟩⟩⟩⟩⟩⟩⟩⟩⟩⟩⟩⟩⟩⟩⟩⟩⟩⟩⟩⟩⟩⟩⟩⟩⟩⟩
def canL : List Nat := [3, 4, 5, 6, 7, 8, 9, 10, 11, 12, 13, 14, 15, 16, 17, 18, 19, 20, 21, 22, 23, 24, 25, 26, 27, 28, 29, 30, 31, 32, 33, 34, 35, 36, 37, 38, 39, 40, 41, 42, 43, 44, 45, 46, 47, 48, 49, 50, 51, 52, 53, 54, 55, 56, 57, 58, 59, 60, 61, 62, 63, 64]
theorem c3 : ∀ args w, (callFunc 3 args).run Try.prog w = .ok (.enter 3 args) w := call_of Try.func3 (by kernel_rfl) (by kernel_rfl)
theorem c4 : ∀ args w, (callFunc 4 args).run Try.prog w = .ok (.enter 4 args) w := call_of Try.func4 (by kernel_rfl) (by kernel_rfl)
theorem c5 : ∀ args w, (callFunc 5 args).run Try.prog w = .ok (.enter 5 args) w := call_of Try.func5 (by kernel_rfl) (by kernel_rfl)
theorem c6 : ∀ args w, (callFunc 6 args).run Try.prog w = .ok (.enter 6 args) w := call_of Try.func6 (by kernel_rfl) (by kernel_rfl)
theorem c7 : ∀ args w, (callFunc 7 args).run Try.prog w = .ok (.enter 7 args) w := call_of Try.func7 (by kernel_rfl) (by kernel_rfl)
theorem c8 : ∀ args w, (callFunc 8 args).run Try.prog w = .ok (.enter 8 args) w := call_of Try.func8 (by kernel_rfl) (by kernel_rfl)
theorem c9 : ∀ args w, (callFunc 9 args).run Try.prog w = .ok (.enter 9 args) w := call_of Try.func9 (by kernel_rfl) (by kernel_rfl)
theorem c10 : ∀ args w, (callFunc 10 args).run Try.prog w = .ok (.enter 10 args) w := call_of Try.func10 (by kernel_rfl) (by kernel_rfl)
theorem c11 : ∀ args w, (callFunc 11 args).run Try.prog w = .ok (.enter 11 args) w := call_of Try.func11 (by kernel_rfl) (by kernel_rfl)
theorem c12 : ∀ args w, (callFunc 12 args).run Try.prog w = .ok (.enter 12 args) w := call_of Try.func12 (by kernel_rfl) (by kernel_rfl)
theorem c13 : ∀ args w, (callFunc 13 args).run Try.prog w = .ok (.enter 13 args) w := call_of Try.func13 (by kernel_rfl) (by kernel_rfl)
theorem c14 : ∀ args w, (callFunc 14 args).run Try.prog w = .ok (.enter 14 args) w := call_of Try.func14 (by kernel_rfl) (by kernel_rfl)
theorem c15 : ∀ args w, (callFunc 15 args).run Try.prog w = .ok (.enter 15 args) w := call_of Try.func15 (by kernel_rfl) (by kernel_rfl)
theorem c16 : ∀ args w, (callFunc 16 args).run Try.prog w = .ok (.enter 16 args) w := call_of Try.func16 (by kernel_rfl) (by kernel_rfl)
theorem c17 : ∀ args w, (callFunc 17 args).run Try.prog w = .ok (.enter 17 args) w := call_of Try.func17 (by kernel_rfl) (by kernel_rfl)
theorem c18 : ∀ args w, (callFunc 18 args).run Try.prog w = .ok (.enter 18 args) w := call_of Try.func18 (by kernel_rfl) (by kernel_rfl)
theorem c19 : ∀ args w, (callFunc 19 args).run Try.prog w = .ok (.enter 19 args) w := call_of Try.func19 (by kernel_rfl) (by kernel_rfl)
theorem c20 : ∀ args w, (callFunc 20 args).run Try.prog w = .ok (.enter 20 args) w := call_of Try.func20 (by kernel_rfl) (by kernel_rfl)
theorem c21 : ∀ args w, (callFunc 21 args).run Try.prog w = .ok (.enter 21 args) w := call_of Try.func21 (by kernel_rfl) (by kernel_rfl)
theorem c22 : ∀ args w, (callFunc 22 args).run Try.prog w = .ok (.enter 22 args) w := call_of Try.func22 (by kernel_rfl) (by kernel_rfl)
theorem c23 : ∀ args w, (callFunc 23 args).run Try.prog w = .ok (.enter 23 args) w := call_of Try.func23 (by kernel_rfl) (by kernel_rfl)
theorem c24 : ∀ args w, (callFunc 24 args).run Try.prog w = .ok (.enter 24 args) w := call_of Try.func24 (by kernel_rfl) (by kernel_rfl)
theorem c25 : ∀ args w, (callFunc 25 args).run Try.prog w = .ok (.enter 25 args) w := call_of Try.func25 (by kernel_rfl) (by kernel_rfl)
theorem c26 : ∀ args w, (callFunc 26 args).run Try.prog w = .ok (.enter 26 args) w := call_of Try.func26 (by kernel_rfl) (by kernel_rfl)
theorem c27 : ∀ args w, (callFunc 27 args).run Try.prog w = .ok (.enter 27 args) w := call_of Try.func27 (by kernel_rfl) (by kernel_rfl)
theorem c28 : ∀ args w, (callFunc 28 args).run Try.prog w = .ok (.enter 28 args) w := call_of Try.func28 (by kernel_rfl) (by kernel_rfl)
theorem c29 : ∀ args w, (callFunc 29 args).run Try.prog w = .ok (.enter 29 args) w := call_of Try.func29 (by kernel_rfl) (by kernel_rfl)
theorem c30 : ∀ args w, (callFunc 30 args).run Try.prog w = .ok (.enter 30 args) w := call_of Try.func30 (by kernel_rfl) (by kernel_rfl)
theorem c31 : ∀ args w, (callFunc 31 args).run Try.prog w = .ok (.enter 31 args) w := call_of Try.func31 (by kernel_rfl) (by kernel_rfl)
theorem c32 : ∀ args w, (callFunc 32 args).run Try.prog w = .ok (.enter 32 args) w := call_of Try.func32 (by kernel_rfl) (by kernel_rfl)
theorem c33 : ∀ args w, (callFunc 33 args).run Try.prog w = .ok (.enter 33 args) w := call_of Try.func33 (by kernel_rfl) (by kernel_rfl)
theorem c34 : ∀ args w, (callFunc 34 args).run Try.prog w = .ok (.enter 34 args) w := call_of Try.func34 (by kernel_rfl) (by kernel_rfl)
theorem c35 : ∀ args w, (callFunc 35 args).run Try.prog w = .ok (.enter 35 args) w := call_of Try.func35 (by kernel_rfl) (by kernel_rfl)
theorem c36 : ∀ args w, (callFunc 36 args).run Try.prog w = .ok (.enter 36 args) w := call_of Try.func36 (by kernel_rfl) (by kernel_rfl)
theorem c37 : ∀ args w, (callFunc 37 args).run Try.prog w = .ok (.enter 37 args) w := call_of Try.func37 (by kernel_rfl) (by kernel_rfl)
theorem c38 : ∀ args w, (callFunc 38 args).run Try.prog w = .ok (.enter 38 args) w := call_of Try.func38 (by kernel_rfl) (by kernel_rfl)
theorem c39 : ∀ args w, (callFunc 39 args).run Try.prog w = .ok (.enter 39 args) w := call_of Try.func39 (by kernel_rfl) (by kernel_rfl)
theorem c40 : ∀ args w, (callFunc 40 args).run Try.prog w = .ok (.enter 40 args) w := call_of Try.func40 (by kernel_rfl) (by kernel_rfl)
theorem c41 : ∀ args w, (callFunc 41 args).run Try.prog w = .ok (.enter 41 args) w := call_of Try.func41 (by kernel_rfl) (by kernel_rfl)
theorem c42 : ∀ args w, (callFunc 42 args).run Try.prog w = .ok (.enter 42 args) w := call_of Try.func42 (by kernel_rfl) (by kernel_rfl)
theorem c43 : ∀ args w, (callFunc 43 args).run Try.prog w = .ok (.enter 43 args) w := call_of Try.func43 (by kernel_rfl) (by kernel_rfl)
theorem c44 : ∀ args w, (callFunc 44 args).run Try.prog w = .ok (.enter 44 args) w := call_of Try.func44 (by kernel_rfl) (by kernel_rfl)
theorem c45 : ∀ args w, (callFunc 45 args).run Try.prog w = .ok (.enter 45 args) w := call_of Try.func45 (by kernel_rfl) (by kernel_rfl)
theorem c46 : ∀ args w, (callFunc 46 args).run Try.prog w = .ok (.enter 46 args) w := call_of Try.func46 (by kernel_rfl) (by kernel_rfl)
theorem c47 : ∀ args w, (callFunc 47 args).run Try.prog w = .ok (.enter 47 args) w := call_of Try.func47 (by kernel_rfl) (by kernel_rfl)
theorem c48 : ∀ args w, (callFunc 48 args).run Try.prog w = .ok (.enter 48 args) w := call_of Try.func48 (by kernel_rfl) (by kernel_rfl)
theorem c49 : ∀ args w, (callFunc 49 args).run Try.prog w = .ok (.enter 49 args) w := call_of Try.func49 (by kernel_rfl) (by kernel_rfl)
theorem c50 : ∀ args w, (callFunc 50 args).run Try.prog w = .ok (.enter 50 args) w := call_of Try.func50 (by kernel_rfl) (by kernel_rfl)
theorem c51 : ∀ args w, (callFunc 51 args).run Try.prog w = .ok (.enter 51 args) w := call_of Try.func51 (by kernel_rfl) (by kernel_rfl)
theorem c52 : ∀ args w, (callFunc 52 args).run Try.prog w = .ok (.enter 52 args) w := call_of Try.func52 (by kernel_rfl) (by kernel_rfl)
theorem c53 : ∀ args w, (callFunc 53 args).run Try.prog w = .ok (.enter 53 args) w := call_of Try.func53 (by kernel_rfl) (by kernel_rfl)
theorem c54 : ∀ args w, (callFunc 54 args).run Try.prog w = .ok (.enter 54 args) w := call_of Try.func54 (by kernel_rfl) (by kernel_rfl)
theorem c55 : ∀ args w, (callFunc 55 args).run Try.prog w = .ok (.enter 55 args) w := call_of Try.func55 (by kernel_rfl) (by kernel_rfl)
theorem c56 : ∀ args w, (callFunc 56 args).run Try.prog w = .ok (.enter 56 args) w := call_of Try.func56 (by kernel_rfl) (by kernel_rfl)
theorem c57 : ∀ args w, (callFunc 57 args).run Try.prog w = .ok (.enter 57 args) w := call_of Try.func57 (by kernel_rfl) (by kernel_rfl)
theorem c58 : ∀ args w, (callFunc 58 args).run Try.prog w = .ok (.enter 58 args) w := call_of Try.func58 (by kernel_rfl) (by kernel_rfl)
theorem c59 : ∀ args w, (callFunc 59 args).run Try.prog w = .ok (.enter 59 args) w := call_of Try.func59 (by kernel_rfl) (by kernel_rfl)
theorem c60 : ∀ args w, (callFunc 60 args).run Try.prog w = .ok (.enter 60 args) w := call_of Try.func60 (by kernel_rfl) (by kernel_rfl)
theorem c61 : ∀ args w, (callFunc 61 args).run Try.prog w = .ok (.enter 61 args) w := call_of Try.func61 (by kernel_rfl) (by kernel_rfl)
theorem c62 : ∀ args w, (callFunc 62 args).run Try.prog w = .ok (.enter 62 args) w := call_of Try.func62 (by kernel_rfl) (by kernel_rfl)
theorem c63 : ∀ args w, (callFunc 63 args).run Try.prog w = .ok (.enter 63 args) w := call_of Try.func63 (by kernel_rfl) (by kernel_rfl)
theorem c64 : ∀ args w, (callFunc 64 args).run Try.prog w = .ok (.enter 64 args) w := call_of Try.func64 (by kernel_rfl) (by kernel_rfl)
def can (f : FuncId) : Bool := memb f canL
theorem memb_mem : ∀ (b : Nat) (l : List Nat), memb b l = true → b ∈ l
  | _, [], h => by cases h
  | b, x :: r, h => by
    simp only [memb] at h
    cases hb : Nat.beq x b with
    | true => rw [← Nat.eq_of_beq_eq_true hb]; exact List.mem_cons_self ..
    | false => rw [hb] at h; exact List.mem_cons_of_mem _ (memb_mem b r h)
def CallOK (f : FuncId) : Prop := ∀ args w, (callFunc f args).run Try.prog w = .ok (.enter f args) w
theorem canAll : ∀ f ∈ canL, CallOK f := List.forall_mem_cons.2 ⟨c3, List.forall_mem_cons.2 ⟨c4, List.forall_mem_cons.2 ⟨c5, List.forall_mem_cons.2 ⟨c6, List.forall_mem_cons.2 ⟨c7, List.forall_mem_cons.2 ⟨c8, List.forall_mem_cons.2 ⟨c9, List.forall_mem_cons.2 ⟨c10, List.forall_mem_cons.2 ⟨c11, List.forall_mem_cons.2 ⟨c12, List.forall_mem_cons.2 ⟨c13, List.forall_mem_cons.2 ⟨c14, List.forall_mem_cons.2 ⟨c15, List.forall_mem_cons.2 ⟨c16, List.forall_mem_cons.2 ⟨c17, List.forall_mem_cons.2 ⟨c18, List.forall_mem_cons.2 ⟨c19, List.forall_mem_cons.2 ⟨c20, List.forall_mem_cons.2 ⟨c21, List.forall_mem_cons.2 ⟨c22, List.forall_mem_cons.2 ⟨c23, List.forall_mem_cons.2 ⟨c24, List.forall_mem_cons.2 ⟨c25, List.forall_mem_cons.2 ⟨c26, List.forall_mem_cons.2 ⟨c27, List.forall_mem_cons.2 ⟨c28, List.forall_mem_cons.2 ⟨c29, List.forall_mem_cons.2 ⟨c30, List.forall_mem_cons.2 ⟨c31, List.forall_mem_cons.2 ⟨c32, List.forall_mem_cons.2 ⟨c33, List.forall_mem_cons.2 ⟨c34, List.forall_mem_cons.2 ⟨c35, List.forall_mem_cons.2 ⟨c36, List.forall_mem_cons.2 ⟨c37, List.forall_mem_cons.2 ⟨c38, List.forall_mem_cons.2 ⟨c39, List.forall_mem_cons.2 ⟨c40, List.forall_mem_cons.2 ⟨c41, List.forall_mem_cons.2 ⟨c42, List.forall_mem_cons.2 ⟨c43, List.forall_mem_cons.2 ⟨c44, List.forall_mem_cons.2 ⟨c45, List.forall_mem_cons.2 ⟨c46, List.forall_mem_cons.2 ⟨c47, List.forall_mem_cons.2 ⟨c48, List.forall_mem_cons.2 ⟨c49, List.forall_mem_cons.2 ⟨c50, List.forall_mem_cons.2 ⟨c51, List.forall_mem_cons.2 ⟨c52, List.forall_mem_cons.2 ⟨c53, List.forall_mem_cons.2 ⟨c54, List.forall_mem_cons.2 ⟨c55, List.forall_mem_cons.2 ⟨c56, List.forall_mem_cons.2 ⟨c57, List.forall_mem_cons.2 ⟨c58, List.forall_mem_cons.2 ⟨c59, List.forall_mem_cons.2 ⟨c60, List.forall_mem_cons.2 ⟨c61, List.forall_mem_cons.2 ⟨c62, List.forall_mem_cons.2 ⟨c63, List.forall_mem_cons.2 ⟨c64, fun _ h => nomatch h⟩⟩⟩⟩⟩⟩⟩⟩⟩⟩⟩⟩⟩⟩⟩⟩⟩⟩⟩⟩⟩⟩⟩⟩⟩⟩⟩⟩⟩⟩⟩⟩⟩⟩⟩⟩⟩⟩⟩⟩⟩⟩⟩⟩⟩⟩⟩⟩⟩⟩⟩⟩⟩⟩⟩⟩⟩⟩⟩⟩⟩⟩
theorem canOK : ∀ f, can f = true → ∀ args w, (callFunc f args).run Try.prog w = .ok (.enter f args) w := fun f h => canAll f (memb_mem f canL h)
def methL : List (Nat × List (String × Nat)) := []
def lookM : List (String × Nat) → String → Option Nat
  | [], _ => none
  | p :: r, n => cond (p.1 == n) (some p.2) (lookM r n)
theorem lookM_in : ∀ (l : List (String × Nat)) (n : String) (f : Nat), lookM l n = some f → (n, f) ∈ l
  | [], _, _, h => by cases h
  | p :: r, n, f, h => by
    simp only [lookM] at h
    cases hb : p.1 == n with
    | true => rw [hb] at h; cases h; rw [← eq_of_beq hb]; exact List.mem_cons_self ..
    | false => rw [hb] at h; exact List.mem_cons_of_mem _ (lookM_in r n f h)
def meth (t : TypeId) (n : String) : Option FuncId := match seek methL t with | some l => lookM l n | none => none
def Meth (t : TypeId) (n : String) (f : FuncId) : Prop := ∀ args w, (callMethod (.iface t (.agg #[])) n args).run Try.prog w = .ok (.enter f (#[.agg #[]] ++ args)) w
theorem methAll : ∀ q ∈ methL, ∀ p ∈ q.2, Meth q.1 p.1 p.2 := fun _ h => nomatch h
theorem methOK : ∀ t n f, meth t n = some f → Meth t n f := by
  intro t n f h
  unfold meth at h
  split at h
  · rename_i l hl
    have := methAll (t, l) (seek_in _ _ _ hl) (n, f) (lookM_in _ _ _ h)
    exact this
  · cases h
/-- The program's table, with no loops and no contracts. -/
def C0 : Ctx := { ti := ti, meth := meth, can := can, pur := fun _ => none, loops := fun _ => none, gh := fun _ => [] }
theorem tabOK (C : Ctx) (h1 : C.ti = ti) (h2 : C.meth = meth) (h3 : C.can = can) : TabOK C Try.prog := tab_of (by rw [h1]; exact tiOK) (by rw [h2]; exact methOK) (by rw [h3]; exact canOK) (by kernel_rfl)
end Go.Proofs.Ytdjdbjcapenjeaa.Dx.TYtdjdbjcapenjeaa
