/- The types, as the engine reads them. -/
import Derived.Test.YtmemeaaccgmeaaaGreatDx3
import Derived.Test.YtmemeaaccgmeaaaGreatProg
namespace Go.Proofs.YtmemeaaccgmeaaaGreat.Dx.TYtmemeaaccgmeaaaGreat
open Go Go.Proofs Go.Proofs.YtmemeaaccgmeaaaGreat.Dx

def t0 : TI := ⟨.tuple #[], 1, 0, none⟩
def t3 : TI := ⟨.int .i64, 1, 8, some (.int .i64)⟩
def t4 : TI := ⟨.bool, 1, 1, some .bool⟩
def t5 : TI := ⟨.int .u8, 1, 1, some (.int .u8)⟩
def t9 : TI := ⟨.string, 1, 16, some .str⟩
def t22 : TI := ⟨.slice 74, 1, 24, some (.sl ((.pair (.int .u8) (.pair (.int .u64) (.pair (.pair (.int .u8) (.pair (.int .u64) (.pair (.int .u64) (.pair (.sl (.int .u8)) (.pair (.sl (.int .u8)) (.pair .bool (.pair (.int .u8) .unit))))))) (.pair (.int .u8) (.pair (.sl (.int .u8)) (.pair (.int .i64) (.pair (.int .i64) .unit)))))))))⟩
def t24 : TI := ⟨.int .i64, 1, 8, some (.int .i64)⟩
def t25 : TI := ⟨.tuple #[3, 24], 1, 0, none⟩
def t27 : TI := ⟨.tuple #[3, 3], 1, 0, none⟩
def t32 : TI := ⟨.slice 68, 1, 24, some (.sl ((.pair (.int .u8) (.pair (.int .i64) (.pair (.int .u8) (.pair (.int .u64) (.pair (.pair (.int .u8) (.pair (.int .u64) (.pair (.int .u64) (.pair (.sl (.int .u8)) (.pair (.sl (.int .u8)) (.pair .bool (.pair (.int .u8) .unit))))))) (.pair (.pair (.int .u8) (.pair (.int .u64) (.pair (.int .u8) (.pair (.sl (.int .u8)) (.pair (.sl ((.pair (.int .u64) (.pair (.sl (.int .u8)) .unit)))) (.pair (.int .u64) (.pair (.int .u8) (.pair (.int .i64) (.pair (.int .i64) .unit))))))))) (.pair (.int .u8) (.pair (.pair (.int .u8) (.pair (.int .u64) (.pair (.int .u64) (.pair (.int .u64) (.pair (.sl (.int .u8)) (.pair (.sl (.int .u8)) (.pair .bool (.pair (.int .u8) (.pair (.int .u8) (.pair (.int .u8) (.pair (.int .u32) (.pair (.int .u32) (.pair (.int .u64) (.pair (.int .u8) (.pair (.sl ((.pair (.int .u64) (.pair (.sl (.int .u8)) .unit)))) (.pair (.sl ((.pair (.int .u8) (.pair (.int .u64) (.pair (.int .u8) .unit))))) (.pair (.sl (.int .u8)) .unit))))))))))))))))) (.pair (.int .u8) .unit)))))))))))⟩
def t34 : TI := ⟨.tuple #[22, 3, 3], 1, 0, none⟩
def t36 : TI := ⟨.tuple #[22, 3, 24], 1, 0, none⟩
def t42 : TI := ⟨.slice 71, 1, 24, some (.sl ((.pair (.int .i64) (.pair .bool (.pair .bool (.pair (.int .i64) (.pair (.int .u64) (.pair (.sl (.int .u8)) (.pair .bool (.pair (.int .i64) .unit))))))))))⟩
def t43 : TI := ⟨.pointer 55, 1, 8, some .nilp⟩
def t46 : TI := ⟨.array 16 4, 16, 16, some (.arr 16 .bool)⟩
def t47 : TI := ⟨.int .u64, 1, 8, some (.int .u64)⟩
def t48 : TI := ⟨.array 16 47, 16, 128, some (.arr 16 (.int .u64))⟩
def t49 : TI := ⟨.int .u8, 1, 1, some (.int .u8)⟩
def t50 : TI := ⟨.slice 5, 1, 24, some (.sl (.int .u8))⟩
def t52 : TI := ⟨.struct #[⟨"Kind", 49, 0, false, "", "", 0⟩, ⟨"Key", 47, 1, false, "", "", 8⟩, ⟨"Hi", 47, 2, false, "", "", 16⟩, ⟨"Value", 50, 3, false, "", "", 24⟩, ⟨"Old", 50, 4, false, "", "", 48⟩, ⟨"Has", 4, 5, false, "", "", 72⟩, ⟨"Limit", 5, 6, false, "", "", 73⟩], 7, 80, some (.pair (.int .u8) (.pair (.int .u64) (.pair (.int .u64) (.pair (.sl (.int .u8)) (.pair (.sl (.int .u8)) (.pair .bool (.pair (.int .u8) .unit)))))))⟩
def t53 : TI := ⟨.array 16 52, 112, 1280, some (.arr 16 (.pair (.int .u8) (.pair (.int .u64) (.pair (.int .u64) (.pair (.sl (.int .u8)) (.pair (.sl (.int .u8)) (.pair .bool (.pair (.int .u8) .unit))))))))⟩
def t55 : TI := ⟨.struct #[⟨"Log", 32, 0, false, "", "", 0⟩, ⟨"Open", 46, 1, false, "", "", 24⟩, ⟨"Seq", 48, 17, false, "", "", 40⟩, ⟨"Req", 53, 33, false, "", "", 168⟩, ⟨"Begun", 3, 145, false, "", "", 1448⟩, ⟨"Ended", 3, 146, false, "", "", 1456⟩], 147, 1464, some (.pair (.sl ((.pair (.int .u8) (.pair (.int .i64) (.pair (.int .u8) (.pair (.int .u64) (.pair (.pair (.int .u8) (.pair (.int .u64) (.pair (.int .u64) (.pair (.sl (.int .u8)) (.pair (.sl (.int .u8)) (.pair .bool (.pair (.int .u8) .unit))))))) (.pair (.pair (.int .u8) (.pair (.int .u64) (.pair (.int .u8) (.pair (.sl (.int .u8)) (.pair (.sl ((.pair (.int .u64) (.pair (.sl (.int .u8)) .unit)))) (.pair (.int .u64) (.pair (.int .u8) (.pair (.int .i64) (.pair (.int .i64) .unit))))))))) (.pair (.int .u8) (.pair (.pair (.int .u8) (.pair (.int .u64) (.pair (.int .u64) (.pair (.int .u64) (.pair (.sl (.int .u8)) (.pair (.sl (.int .u8)) (.pair .bool (.pair (.int .u8) (.pair (.int .u8) (.pair (.int .u8) (.pair (.int .u32) (.pair (.int .u32) (.pair (.int .u64) (.pair (.int .u8) (.pair (.sl ((.pair (.int .u64) (.pair (.sl (.int .u8)) .unit)))) (.pair (.sl ((.pair (.int .u8) (.pair (.int .u64) (.pair (.int .u8) .unit))))) (.pair (.sl (.int .u8)) .unit))))))))))))))))) (.pair (.int .u8) .unit))))))))))) (.pair (.arr 16 .bool) (.pair (.arr 16 (.int .u64)) (.pair (.arr 16 (.pair (.int .u8) (.pair (.int .u64) (.pair (.int .u64) (.pair (.sl (.int .u8)) (.pair (.sl (.int .u8)) (.pair .bool (.pair (.int .u8) .unit)))))))) (.pair (.int .i64) (.pair (.int .i64) .unit))))))⟩
def t56 : TI := ⟨.int .u8, 1, 1, some (.int .u8)⟩
def t57 : TI := ⟨.int .u8, 1, 1, some (.int .u8)⟩
def t58 : TI := ⟨.int .u8, 1, 1, some (.int .u8)⟩
def t59 : TI := ⟨.int .u8, 1, 1, some (.int .u8)⟩
def t60 : TI := ⟨.slice 118, 1, 24, some (.sl ((.pair (.int .u64) (.pair (.sl (.int .u8)) .unit))))⟩
def t62 : TI := ⟨.struct #[⟨"Phase", 58, 0, false, "", "", 0⟩, ⟨"Seq", 47, 1, false, "", "", 8⟩, ⟨"Status", 59, 2, false, "", "", 16⟩, ⟨"Value", 50, 3, false, "", "", 24⟩, ⟨"Pairs", 60, 4, false, "", "", 48⟩, ⟨"Hi", 47, 5, false, "", "", 72⟩, ⟨"Host", 56, 6, false, "", "", 80⟩, ⟨"Sent", 3, 7, false, "", "", 88⟩, ⟨"Hops", 3, 8, false, "", "", 96⟩], 9, 104, some (.pair (.int .u8) (.pair (.int .u64) (.pair (.int .u8) (.pair (.sl (.int .u8)) (.pair (.sl ((.pair (.int .u64) (.pair (.sl (.int .u8)) .unit)))) (.pair (.int .u64) (.pair (.int .u8) (.pair (.int .i64) (.pair (.int .i64) .unit)))))))))⟩
def t63 : TI := ⟨.int .u32, 1, 4, some (.int .u32)⟩
def t64 : TI := ⟨.slice 187, 1, 24, some (.sl ((.pair (.int .u8) (.pair (.int .u64) (.pair (.int .u8) .unit)))))⟩
def t66 : TI := ⟨.struct #[⟨"Kind", 49, 0, false, "", "", 0⟩, ⟨"Seq", 47, 1, false, "", "", 8⟩, ⟨"Key", 47, 2, false, "", "", 16⟩, ⟨"Hi", 47, 3, false, "", "", 24⟩, ⟨"Value", 50, 4, false, "", "", 32⟩, ⟨"Old", 50, 5, false, "", "", 56⟩, ⟨"Has", 4, 6, false, "", "", 80⟩, ⟨"Of", 49, 7, false, "", "", 81⟩, ⟨"Status", 59, 8, false, "", "", 82⟩, ⟨"Host", 56, 9, false, "", "", 83⟩, ⟨"Grant", 63, 10, false, "", "", 84⟩, ⟨"Bounds", 63, 11, false, "", "", 88⟩, ⟨"Mask", 47, 12, false, "", "", 96⟩, ⟨"Limit", 5, 13, false, "", "", 104⟩, ⟨"Pairs", 60, 14, false, "", "", 112⟩, ⟨"Sessions", 64, 15, false, "", "", 136⟩, ⟨"Payload", 50, 16, false, "", "", 160⟩], 17, 184, some (.pair (.int .u8) (.pair (.int .u64) (.pair (.int .u64) (.pair (.int .u64) (.pair (.sl (.int .u8)) (.pair (.sl (.int .u8)) (.pair .bool (.pair (.int .u8) (.pair (.int .u8) (.pair (.int .u8) (.pair (.int .u32) (.pair (.int .u32) (.pair (.int .u64) (.pair (.int .u8) (.pair (.sl ((.pair (.int .u64) (.pair (.sl (.int .u8)) .unit)))) (.pair (.sl ((.pair (.int .u8) (.pair (.int .u64) (.pair (.int .u8) .unit))))) (.pair (.sl (.int .u8)) .unit)))))))))))))))))⟩
def t68 : TI := ⟨.struct #[⟨"Kind", 57, 0, false, "", "", 0⟩, ⟨"Step", 3, 1, false, "", "", 8⟩, ⟨"Who", 56, 2, false, "", "", 16⟩, ⟨"Seq", 47, 3, false, "", "", 24⟩, ⟨"Req", 52, 4, false, "", "", 32⟩, ⟨"Out", 62, 11, false, "", "", 112⟩, ⟨"Host", 56, 20, false, "", "", 216⟩, ⟨"Shard", 66, 21, false, "", "", 224⟩, ⟨"Status", 59, 38, false, "", "", 408⟩], 39, 416, some (.pair (.int .u8) (.pair (.int .i64) (.pair (.int .u8) (.pair (.int .u64) (.pair (.pair (.int .u8) (.pair (.int .u64) (.pair (.int .u64) (.pair (.sl (.int .u8)) (.pair (.sl (.int .u8)) (.pair .bool (.pair (.int .u8) .unit))))))) (.pair (.pair (.int .u8) (.pair (.int .u64) (.pair (.int .u8) (.pair (.sl (.int .u8)) (.pair (.sl ((.pair (.int .u64) (.pair (.sl (.int .u8)) .unit)))) (.pair (.int .u64) (.pair (.int .u8) (.pair (.int .i64) (.pair (.int .i64) .unit))))))))) (.pair (.int .u8) (.pair (.pair (.int .u8) (.pair (.int .u64) (.pair (.int .u64) (.pair (.int .u64) (.pair (.sl (.int .u8)) (.pair (.sl (.int .u8)) (.pair .bool (.pair (.int .u8) (.pair (.int .u8) (.pair (.int .u8) (.pair (.int .u32) (.pair (.int .u32) (.pair (.int .u64) (.pair (.int .u8) (.pair (.sl ((.pair (.int .u64) (.pair (.sl (.int .u8)) .unit)))) (.pair (.sl ((.pair (.int .u8) (.pair (.int .u64) (.pair (.int .u8) .unit))))) (.pair (.sl (.int .u8)) .unit))))))))))))))))) (.pair (.int .u8) .unit)))))))))⟩
def t71 : TI := ⟨.struct #[⟨"Client", 3, 0, false, "", "", 0⟩, ⟨"Give", 4, 1, false, "", "", 8⟩, ⟨"Other", 4, 2, false, "", "", 9⟩, ⟨"Op", 3, 3, false, "", "", 16⟩, ⟨"Key", 47, 4, false, "", "", 24⟩, ⟨"Val", 50, 5, false, "", "", 32⟩, ⟨"Yes", 4, 6, false, "", "", 56⟩, ⟨"Skip", 3, 7, false, "", "", 64⟩], 8, 72, some (.pair (.int .i64) (.pair .bool (.pair .bool (.pair (.int .i64) (.pair (.int .u64) (.pair (.sl (.int .u8)) (.pair .bool (.pair (.int .i64) .unit))))))))⟩
def t74 : TI := ⟨.struct #[⟨"Who", 56, 0, false, "", "", 0⟩, ⟨"Seq", 47, 1, false, "", "", 8⟩, ⟨"Req", 52, 2, false, "", "", 16⟩, ⟨"Status", 59, 9, false, "", "", 96⟩, ⟨"Value", 50, 10, false, "", "", 104⟩, ⟨"Begin", 3, 11, false, "", "", 128⟩, ⟨"End", 3, 12, false, "", "", 136⟩], 13, 144, some (.pair (.int .u8) (.pair (.int .u64) (.pair (.pair (.int .u8) (.pair (.int .u64) (.pair (.int .u64) (.pair (.sl (.int .u8)) (.pair (.sl (.int .u8)) (.pair .bool (.pair (.int .u8) .unit))))))) (.pair (.int .u8) (.pair (.sl (.int .u8)) (.pair (.int .i64) (.pair (.int .i64) .unit)))))))⟩
def t77 : TI := ⟨.slice 82, 1, 24, some (.sl ((.arr 2 (.int .i64))))⟩
def t78 : TI := ⟨.tuple #[77, 24], 1, 0, none⟩
def t82 : TI := ⟨.array 2 3, 2, 16, some (.arr 2 (.int .i64))⟩
def t83 : TI := ⟨.slice 3, 1, 24, some (.sl (.int .i64))⟩
def t85 : TI := ⟨.tuple #[32, 3], 1, 0, none⟩
def t87 : TI := ⟨.tuple #[32, 24], 1, 0, none⟩
def t90 : TI := ⟨.slice 47, 1, 24, some (.sl (.int .u64))⟩
def t94 : TI := ⟨.tuple #[77, 3], 1, 0, none⟩
def t99 : TI := ⟨.map 3 3, 1, 8, some .nilm⟩
def t100 : TI := ⟨.array 16 74, 208, 2304, some (.arr 16 (.pair (.int .u8) (.pair (.int .u64) (.pair (.pair (.int .u8) (.pair (.int .u64) (.pair (.int .u64) (.pair (.sl (.int .u8)) (.pair (.sl (.int .u8)) (.pair .bool (.pair (.int .u8) .unit))))))) (.pair (.int .u8) (.pair (.sl (.int .u8)) (.pair (.int .i64) (.pair (.int .i64) .unit))))))))⟩
def t102 : TI := ⟨.pointer 74, 1, 8, some .nilp⟩
def t107 : TI := ⟨.struct #[⟨"open", 4, 0, false, "", "shard/history", 0⟩, ⟨"call", 3, 1, false, "", "shard/history", 8⟩, ⟨"last", 47, 2, false, "", "shard/history", 16⟩], 3, 24, some (.pair .bool (.pair (.int .i64) (.pair (.int .u64) .unit)))⟩
def t108 : TI := ⟨.array 16 107, 48, 384, some (.arr 16 (.pair .bool (.pair (.int .i64) (.pair (.int .u64) .unit))))⟩
def t110 : TI := ⟨.pointer 107, 1, 8, some .nilp⟩
def t114 : TI := ⟨.slice 50, 1, 24, some (.sl ((.sl (.int .u8))))⟩
def t118 : TI := ⟨.struct #[⟨"Key", 47, 0, false, "", "", 0⟩, ⟨"Value", 50, 1, false, "", "", 8⟩], 2, 32, some (.pair (.int .u64) (.pair (.sl (.int .u8)) .unit))⟩
def t119 : TI := ⟨.slice 4, 1, 24, some (.sl .bool)⟩
def t121 : TI := ⟨.tuple #[3, 4], 1, 0, none⟩
def t124 : TI := ⟨.slice 126, 1, 24, some (.sl ((.pair (.int .i64) (.pair (.int .i64) .unit))))⟩
def t126 : TI := ⟨.struct #[⟨"place", 3, 0, false, "", "shard/history", 0⟩, ⟨"call", 3, 1, false, "", "shard/history", 8⟩], 2, 16, some (.pair (.int .i64) (.pair (.int .i64) .unit))⟩
def t128 : TI := ⟨.func #[126, 126] #[3] false, 1, 8, some .nilf⟩
def t129 : TI := ⟨.func #[68] #[] false, 1, 8, some .nilf⟩
def t130 : TI := ⟨.pointer 47, 1, 8, some .nilp⟩
def t140 : TI := ⟨.int .u8, 1, 1, some (.int .u8)⟩
def t147 : TI := ⟨.int .u64, 1, 8, some (.int .u64)⟩
def t155 : TI := ⟨.slice 158, 1, 24, some .nl⟩
def t158 : TI := ⟨.interface #[("shard/wire.order", 159), ("shard/wire.print", 240), ("shard/wire.put", 241), ("shard/wire.rule", 159), ("shard/wire.scan", 242), ("shard/wire.take", 243), ("shard/wire.wipe", 161)], 1, 16, some .nili⟩
def t160 : TI := ⟨.pointer 66, 1, 8, some .nilp⟩
def t187 : TI := ⟨.struct #[⟨"Client", 56, 0, false, "", "", 0⟩, ⟨"Seq", 47, 1, false, "", "", 8⟩, ⟨"Status", 59, 2, false, "", "", 16⟩], 3, 24, some (.pair (.int .u8) (.pair (.int .u64) (.pair (.int .u8) .unit)))⟩
def t189 : TI := ⟨.struct #[], 0, 0, some .unit⟩
def t191 : TI := ⟨.struct #[⟨"plain", 189, 0, true, "", "shard/wire", 0⟩], 0, 0, some (.pair .unit .unit)⟩
def t192 : TI := ⟨.struct #[⟨"plain", 189, 0, true, "", "shard/wire", 0⟩], 0, 0, some (.pair .unit .unit)⟩
def t193 : TI := ⟨.struct #[⟨"plain", 189, 0, true, "", "shard/wire", 0⟩], 0, 0, some (.pair .unit .unit)⟩
def t194 : TI := ⟨.struct #[⟨"plain", 189, 0, true, "", "shard/wire", 0⟩], 0, 0, some (.pair .unit .unit)⟩
def t195 : TI := ⟨.struct #[⟨"plain", 189, 0, true, "", "shard/wire", 0⟩], 0, 0, some (.pair .unit .unit)⟩
def t196 : TI := ⟨.struct #[⟨"plain", 189, 0, true, "", "shard/wire", 0⟩], 0, 0, some (.pair .unit .unit)⟩
def t197 : TI := ⟨.struct #[⟨"plain", 189, 0, true, "", "shard/wire", 0⟩], 0, 0, some (.pair .unit .unit)⟩
def t198 : TI := ⟨.struct #[⟨"plain", 189, 0, true, "", "shard/wire", 0⟩], 0, 0, some (.pair .unit .unit)⟩
def t199 : TI := ⟨.struct #[], 0, 0, some .unit⟩
def t200 : TI := ⟨.struct #[⟨"plain", 189, 0, true, "", "shard/wire", 0⟩], 0, 0, some (.pair .unit .unit)⟩
def t201 : TI := ⟨.struct #[⟨"plain", 189, 0, true, "", "shard/wire", 0⟩], 0, 0, some (.pair .unit .unit)⟩
def t202 : TI := ⟨.struct #[⟨"plain", 189, 0, true, "", "shard/wire", 0⟩], 0, 0, some (.pair .unit .unit)⟩
def t203 : TI := ⟨.struct #[⟨"plain", 189, 0, true, "", "shard/wire", 0⟩], 0, 0, some (.pair .unit .unit)⟩
def t204 : TI := ⟨.struct #[⟨"plain", 189, 0, true, "", "shard/wire", 0⟩], 0, 0, some (.pair .unit .unit)⟩
def t205 : TI := ⟨.struct #[⟨"plain", 189, 0, true, "", "shard/wire", 0⟩], 0, 0, some (.pair .unit .unit)⟩
def t206 : TI := ⟨.struct #[⟨"plain", 189, 0, true, "", "shard/wire", 0⟩], 0, 0, some (.pair .unit .unit)⟩
def t207 : TI := ⟨.struct #[], 0, 0, some .unit⟩
def t208 : TI := ⟨.struct #[], 0, 0, some .unit⟩
def t245 : TI := ⟨.struct #[⟨"plain", 189, 0, true, "", "shard/wire", 0⟩], 0, 0, some (.pair .unit .unit)⟩
def ti : List (Nat × TI) := [(0, t0), (3, t3), (4, t4), (5, t5), (9, t9), (22, t22), (24, t24), (25, t25), (27, t27), (32, t32), (34, t34), (36, t36), (42, t42), (43, t43), (46, t46), (47, t47), (48, t48), (49, t49), (50, t50), (52, t52), (53, t53), (55, t55), (56, t56), (57, t57), (58, t58), (59, t59), (60, t60), (62, t62), (63, t63), (64, t64), (66, t66), (68, t68), (71, t71), (74, t74), (77, t77), (78, t78), (82, t82), (83, t83), (85, t85), (87, t87), (90, t90), (94, t94), (99, t99), (100, t100), (102, t102), (107, t107), (108, t108), (110, t110), (114, t114), (118, t118), (119, t119), (121, t121), (124, t124), (126, t126), (128, t128), (129, t129), (130, t130), (140, t140), (147, t147), (155, t155), (158, t158), (160, t160), (187, t187), (189, t189), (191, t191), (192, t192), (193, t193), (194, t194), (195, t195), (196, t196), (197, t197), (198, t198), (199, t199), (200, t200), (201, t201), (202, t202), (203, t203), (204, t204), (205, t205), (206, t206), (207, t207), (208, t208), (245, t245)]
theorem e0 : Entry Tryz.prog 0 t0 := ⟨Tryz.underlying0, by kernel_rfl, by kernel_rfl, trivial⟩
theorem e3 : Entry Tryz.prog 3 t3 := ⟨Tryz.underlying3, by kernel_rfl, by kernel_rfl, by kernel_rfl, rfl, rfl⟩
theorem e4 : Entry Tryz.prog 4 t4 := ⟨Tryz.underlying4, by kernel_rfl, by kernel_rfl, by kernel_rfl, rfl, rfl⟩
theorem e5 : Entry Tryz.prog 5 t5 := ⟨Tryz.underlying5, by kernel_rfl, by kernel_rfl, by kernel_rfl, rfl, rfl⟩
theorem e9 : Entry Tryz.prog 9 t9 := ⟨Tryz.underlying9, by kernel_rfl, by kernel_rfl, by kernel_rfl, rfl, rfl⟩
theorem e22 : Entry Tryz.prog 22 t22 := ⟨Tryz.underlying22, by kernel_rfl, by kernel_rfl, by kernel_rfl, rfl, rfl⟩
theorem e24 : Entry Tryz.prog 24 t24 := ⟨Tryz.underlying24, by kernel_rfl, by kernel_rfl, by kernel_rfl, rfl, rfl⟩
theorem e25 : Entry Tryz.prog 25 t25 := ⟨Tryz.underlying25, by kernel_rfl, by kernel_rfl, trivial⟩
theorem e27 : Entry Tryz.prog 27 t27 := ⟨Tryz.underlying27, by kernel_rfl, by kernel_rfl, trivial⟩
theorem e32 : Entry Tryz.prog 32 t32 := ⟨Tryz.underlying32, by kernel_rfl, by kernel_rfl, by kernel_rfl, rfl, rfl⟩
theorem e34 : Entry Tryz.prog 34 t34 := ⟨Tryz.underlying34, by kernel_rfl, by kernel_rfl, trivial⟩
theorem e36 : Entry Tryz.prog 36 t36 := ⟨Tryz.underlying36, by kernel_rfl, by kernel_rfl, trivial⟩
theorem e42 : Entry Tryz.prog 42 t42 := ⟨Tryz.underlying42, by kernel_rfl, by kernel_rfl, by kernel_rfl, rfl, rfl⟩
theorem e43 : Entry Tryz.prog 43 t43 := ⟨Tryz.underlying43, by kernel_rfl, by kernel_rfl, by kernel_rfl, rfl, rfl⟩
theorem e46 : Entry Tryz.prog 46 t46 := ⟨Tryz.underlying46, by kernel_rfl, by kernel_rfl, by kernel_rfl, rfl, rfl⟩
theorem e47 : Entry Tryz.prog 47 t47 := ⟨Tryz.underlying47, by kernel_rfl, by kernel_rfl, by kernel_rfl, rfl, rfl⟩
theorem e48 : Entry Tryz.prog 48 t48 := ⟨Tryz.underlying48, by kernel_rfl, by kernel_rfl, by kernel_rfl, rfl, rfl⟩
theorem e49 : Entry Tryz.prog 49 t49 := ⟨Tryz.underlying49, by kernel_rfl, by kernel_rfl, by kernel_rfl, rfl, rfl⟩
theorem e50 : Entry Tryz.prog 50 t50 := ⟨Tryz.underlying50, by kernel_rfl, by kernel_rfl, by kernel_rfl, rfl, rfl⟩
theorem e52 : Entry Tryz.prog 52 t52 := ⟨Tryz.underlying52, by kernel_rfl, by kernel_rfl, by kernel_rfl, rfl, rfl⟩
theorem e53 : Entry Tryz.prog 53 t53 := ⟨Tryz.underlying53, by kernel_rfl, by kernel_rfl, by kernel_rfl, rfl, rfl⟩
theorem e55 : Entry Tryz.prog 55 t55 := ⟨Tryz.underlying55, by kernel_rfl, by kernel_rfl, by kernel_rfl, rfl, rfl⟩
theorem e56 : Entry Tryz.prog 56 t56 := ⟨Tryz.underlying56, by kernel_rfl, by kernel_rfl, by kernel_rfl, rfl, rfl⟩
theorem e57 : Entry Tryz.prog 57 t57 := ⟨Tryz.underlying57, by kernel_rfl, by kernel_rfl, by kernel_rfl, rfl, rfl⟩
theorem e58 : Entry Tryz.prog 58 t58 := ⟨Tryz.underlying58, by kernel_rfl, by kernel_rfl, by kernel_rfl, rfl, rfl⟩
theorem e59 : Entry Tryz.prog 59 t59 := ⟨Tryz.underlying59, by kernel_rfl, by kernel_rfl, by kernel_rfl, rfl, rfl⟩
theorem e60 : Entry Tryz.prog 60 t60 := ⟨Tryz.underlying60, by kernel_rfl, by kernel_rfl, by kernel_rfl, rfl, rfl⟩
theorem e62 : Entry Tryz.prog 62 t62 := ⟨Tryz.underlying62, by kernel_rfl, by kernel_rfl, by kernel_rfl, rfl, rfl⟩
theorem e63 : Entry Tryz.prog 63 t63 := ⟨Tryz.underlying63, by kernel_rfl, by kernel_rfl, by kernel_rfl, rfl, rfl⟩
theorem e64 : Entry Tryz.prog 64 t64 := ⟨Tryz.underlying64, by kernel_rfl, by kernel_rfl, by kernel_rfl, rfl, rfl⟩
theorem e66 : Entry Tryz.prog 66 t66 := ⟨Tryz.underlying66, by kernel_rfl, by kernel_rfl, by kernel_rfl, rfl, rfl⟩
theorem e68 : Entry Tryz.prog 68 t68 := ⟨Tryz.underlying68, by kernel_rfl, by kernel_rfl, by kernel_rfl, rfl, rfl⟩
theorem e71 : Entry Tryz.prog 71 t71 := ⟨Tryz.underlying71, by kernel_rfl, by kernel_rfl, by kernel_rfl, rfl, rfl⟩
theorem e74 : Entry Tryz.prog 74 t74 := ⟨Tryz.underlying74, by kernel_rfl, by kernel_rfl, by kernel_rfl, rfl, rfl⟩
theorem e77 : Entry Tryz.prog 77 t77 := ⟨Tryz.underlying77, by kernel_rfl, by kernel_rfl, by kernel_rfl, rfl, rfl⟩
theorem e78 : Entry Tryz.prog 78 t78 := ⟨Tryz.underlying78, by kernel_rfl, by kernel_rfl, trivial⟩
theorem e82 : Entry Tryz.prog 82 t82 := ⟨Tryz.underlying82, by kernel_rfl, by kernel_rfl, by kernel_rfl, rfl, rfl⟩
theorem e83 : Entry Tryz.prog 83 t83 := ⟨Tryz.underlying83, by kernel_rfl, by kernel_rfl, by kernel_rfl, rfl, rfl⟩
theorem e85 : Entry Tryz.prog 85 t85 := ⟨Tryz.underlying85, by kernel_rfl, by kernel_rfl, trivial⟩
theorem e87 : Entry Tryz.prog 87 t87 := ⟨Tryz.underlying87, by kernel_rfl, by kernel_rfl, trivial⟩
theorem e90 : Entry Tryz.prog 90 t90 := ⟨Tryz.underlying90, by kernel_rfl, by kernel_rfl, by kernel_rfl, rfl, rfl⟩
theorem e94 : Entry Tryz.prog 94 t94 := ⟨Tryz.underlying94, by kernel_rfl, by kernel_rfl, trivial⟩
theorem e99 : Entry Tryz.prog 99 t99 := ⟨Tryz.underlying99, by kernel_rfl, by kernel_rfl, by kernel_rfl, rfl, rfl⟩
theorem e100 : Entry Tryz.prog 100 t100 := ⟨Tryz.underlying100, by kernel_rfl, by kernel_rfl, by kernel_rfl, rfl, rfl⟩
theorem e102 : Entry Tryz.prog 102 t102 := ⟨Tryz.underlying102, by kernel_rfl, by kernel_rfl, by kernel_rfl, rfl, rfl⟩
theorem e107 : Entry Tryz.prog 107 t107 := ⟨Tryz.underlying107, by kernel_rfl, by kernel_rfl, by kernel_rfl, rfl, rfl⟩
theorem e108 : Entry Tryz.prog 108 t108 := ⟨Tryz.underlying108, by kernel_rfl, by kernel_rfl, by kernel_rfl, rfl, rfl⟩
theorem e110 : Entry Tryz.prog 110 t110 := ⟨Tryz.underlying110, by kernel_rfl, by kernel_rfl, by kernel_rfl, rfl, rfl⟩
theorem e114 : Entry Tryz.prog 114 t114 := ⟨Tryz.underlying114, by kernel_rfl, by kernel_rfl, by kernel_rfl, rfl, rfl⟩
theorem e118 : Entry Tryz.prog 118 t118 := ⟨Tryz.underlying118, by kernel_rfl, by kernel_rfl, by kernel_rfl, rfl, rfl⟩
theorem e119 : Entry Tryz.prog 119 t119 := ⟨Tryz.underlying119, by kernel_rfl, by kernel_rfl, by kernel_rfl, rfl, rfl⟩
theorem e121 : Entry Tryz.prog 121 t121 := ⟨Tryz.underlying121, by kernel_rfl, by kernel_rfl, trivial⟩
theorem e124 : Entry Tryz.prog 124 t124 := ⟨Tryz.underlying124, by kernel_rfl, by kernel_rfl, by kernel_rfl, rfl, rfl⟩
theorem e126 : Entry Tryz.prog 126 t126 := ⟨Tryz.underlying126, by kernel_rfl, by kernel_rfl, by kernel_rfl, rfl, rfl⟩
theorem e128 : Entry Tryz.prog 128 t128 := ⟨Tryz.underlying128, by kernel_rfl, by kernel_rfl, by kernel_rfl, rfl, rfl⟩
theorem e129 : Entry Tryz.prog 129 t129 := ⟨Tryz.underlying129, by kernel_rfl, by kernel_rfl, by kernel_rfl, rfl, rfl⟩
theorem e130 : Entry Tryz.prog 130 t130 := ⟨Tryz.underlying130, by kernel_rfl, by kernel_rfl, by kernel_rfl, rfl, rfl⟩
theorem e140 : Entry Tryz.prog 140 t140 := ⟨Tryz.underlying140, by kernel_rfl, by kernel_rfl, by kernel_rfl, rfl, rfl⟩
theorem e147 : Entry Tryz.prog 147 t147 := ⟨Tryz.underlying147, by kernel_rfl, by kernel_rfl, by kernel_rfl, rfl, rfl⟩
theorem e155 : Entry Tryz.prog 155 t155 := ⟨Tryz.underlying155, by kernel_rfl, by kernel_rfl, by kernel_rfl, rfl, rfl⟩
theorem e158 : Entry Tryz.prog 158 t158 := ⟨Tryz.underlying158, by kernel_rfl, by kernel_rfl, by kernel_rfl, rfl, rfl⟩
theorem e160 : Entry Tryz.prog 160 t160 := ⟨Tryz.underlying160, by kernel_rfl, by kernel_rfl, by kernel_rfl, rfl, rfl⟩
theorem e187 : Entry Tryz.prog 187 t187 := ⟨Tryz.underlying187, by kernel_rfl, by kernel_rfl, by kernel_rfl, rfl, rfl⟩
theorem e189 : Entry Tryz.prog 189 t189 := ⟨Tryz.underlying189, by kernel_rfl, by kernel_rfl, by kernel_rfl, rfl, rfl⟩
theorem e191 : Entry Tryz.prog 191 t191 := ⟨Tryz.underlying191, by kernel_rfl, by kernel_rfl, by kernel_rfl, rfl, rfl⟩
theorem e192 : Entry Tryz.prog 192 t192 := ⟨Tryz.underlying192, by kernel_rfl, by kernel_rfl, by kernel_rfl, rfl, rfl⟩
theorem e193 : Entry Tryz.prog 193 t193 := ⟨Tryz.underlying193, by kernel_rfl, by kernel_rfl, by kernel_rfl, rfl, rfl⟩
theorem e194 : Entry Tryz.prog 194 t194 := ⟨Tryz.underlying194, by kernel_rfl, by kernel_rfl, by kernel_rfl, rfl, rfl⟩
theorem e195 : Entry Tryz.prog 195 t195 := ⟨Tryz.underlying195, by kernel_rfl, by kernel_rfl, by kernel_rfl, rfl, rfl⟩
theorem e196 : Entry Tryz.prog 196 t196 := ⟨Tryz.underlying196, by kernel_rfl, by kernel_rfl, by kernel_rfl, rfl, rfl⟩
theorem e197 : Entry Tryz.prog 197 t197 := ⟨Tryz.underlying197, by kernel_rfl, by kernel_rfl, by kernel_rfl, rfl, rfl⟩
theorem e198 : Entry Tryz.prog 198 t198 := ⟨Tryz.underlying198, by kernel_rfl, by kernel_rfl, by kernel_rfl, rfl, rfl⟩
theorem e199 : Entry Tryz.prog 199 t199 := ⟨Tryz.underlying199, by kernel_rfl, by kernel_rfl, by kernel_rfl, rfl, rfl⟩
theorem e200 : Entry Tryz.prog 200 t200 := ⟨Tryz.underlying200, by kernel_rfl, by kernel_rfl, by kernel_rfl, rfl, rfl⟩
theorem e201 : Entry Tryz.prog 201 t201 := ⟨Tryz.underlying201, by kernel_rfl, by kernel_rfl, by kernel_rfl, rfl, rfl⟩
theorem e202 : Entry Tryz.prog 202 t202 := ⟨Tryz.underlying202, by kernel_rfl, by kernel_rfl, by kernel_rfl, rfl, rfl⟩
theorem e203 : Entry Tryz.prog 203 t203 := ⟨Tryz.underlying203, by kernel_rfl, by kernel_rfl, by kernel_rfl, rfl, rfl⟩
theorem e204 : Entry Tryz.prog 204 t204 := ⟨Tryz.underlying204, by kernel_rfl, by kernel_rfl, by kernel_rfl, rfl, rfl⟩
theorem e205 : Entry Tryz.prog 205 t205 := ⟨Tryz.underlying205, by kernel_rfl, by kernel_rfl, by kernel_rfl, rfl, rfl⟩
theorem e206 : Entry Tryz.prog 206 t206 := ⟨Tryz.underlying206, by kernel_rfl, by kernel_rfl, by kernel_rfl, rfl, rfl⟩
theorem e207 : Entry Tryz.prog 207 t207 := ⟨Tryz.underlying207, by kernel_rfl, by kernel_rfl, by kernel_rfl, rfl, rfl⟩
theorem e208 : Entry Tryz.prog 208 t208 := ⟨Tryz.underlying208, by kernel_rfl, by kernel_rfl, by kernel_rfl, rfl, rfl⟩
theorem e245 : Entry Tryz.prog 245 t245 := ⟨Tryz.underlying245, by kernel_rfl, by kernel_rfl, by kernel_rfl, rfl, rfl⟩
theorem tiOK : ∀ p ∈ ti, Entry Tryz.prog p.1 p.2 := List.forall_mem_cons.2 ⟨e0, List.forall_mem_cons.2 ⟨e3, List.forall_mem_cons.2 ⟨e4, List.forall_mem_cons.2 ⟨e5, List.forall_mem_cons.2 ⟨e9, List.forall_mem_cons.2 ⟨e22, List.forall_mem_cons.2 ⟨e24, List.forall_mem_cons.2 ⟨e25, List.forall_mem_cons.2 ⟨e27, List.forall_mem_cons.2 ⟨e32, List.forall_mem_cons.2 ⟨e34, List.forall_mem_cons.2 ⟨e36, List.forall_mem_cons.2 ⟨e42, List.forall_mem_cons.2 ⟨e43, List.forall_mem_cons.2 ⟨e46, List.forall_mem_cons.2 ⟨e47, List.forall_mem_cons.2 ⟨e48, List.forall_mem_cons.2 ⟨e49, List.forall_mem_cons.2 ⟨e50, List.forall_mem_cons.2 ⟨e52, List.forall_mem_cons.2 ⟨e53, List.forall_mem_cons.2 ⟨e55, List.forall_mem_cons.2 ⟨e56, List.forall_mem_cons.2 ⟨e57, List.forall_mem_cons.2 ⟨e58, List.forall_mem_cons.2 ⟨e59, List.forall_mem_cons.2 ⟨e60, List.forall_mem_cons.2 ⟨e62, List.forall_mem_cons.2 ⟨e63, List.forall_mem_cons.2 ⟨e64, List.forall_mem_cons.2 ⟨e66, List.forall_mem_cons.2 ⟨e68, List.forall_mem_cons.2 ⟨e71, List.forall_mem_cons.2 ⟨e74, List.forall_mem_cons.2 ⟨e77, List.forall_mem_cons.2 ⟨e78, List.forall_mem_cons.2 ⟨e82, List.forall_mem_cons.2 ⟨e83, List.forall_mem_cons.2 ⟨e85, List.forall_mem_cons.2 ⟨e87, List.forall_mem_cons.2 ⟨e90, List.forall_mem_cons.2 ⟨e94, List.forall_mem_cons.2 ⟨e99, List.forall_mem_cons.2 ⟨e100, List.forall_mem_cons.2 ⟨e102, List.forall_mem_cons.2 ⟨e107, List.forall_mem_cons.2 ⟨e108, List.forall_mem_cons.2 ⟨e110, List.forall_mem_cons.2 ⟨e114, List.forall_mem_cons.2 ⟨e118, List.forall_mem_cons.2 ⟨e119, List.forall_mem_cons.2 ⟨e121, List.forall_mem_cons.2 ⟨e124, List.forall_mem_cons.2 ⟨e126, List.forall_mem_cons.2 ⟨e128, List.forall_mem_cons.2 ⟨e129, List.forall_mem_cons.2 ⟨e130, List.forall_mem_cons.2 ⟨e140, List.forall_mem_cons.2 ⟨e147, List.forall_mem_cons.2 ⟨e155, List.forall_mem_cons.2 ⟨e158, List.forall_mem_cons.2 ⟨e160, List.forall_mem_cons.2 ⟨e187, List.forall_mem_cons.2 ⟨e189, List.forall_mem_cons.2 ⟨e191, List.forall_mem_cons.2 ⟨e192, List.forall_mem_cons.2 ⟨e193, List.forall_mem_cons.2 ⟨e194, List.forall_mem_cons.2 ⟨e195, List.forall_mem_cons.2 ⟨e196, List.forall_mem_cons.2 ⟨e197, List.forall_mem_cons.2 ⟨e198, List.forall_mem_cons.2 ⟨e199, List.forall_mem_cons.2 ⟨e200, List.forall_mem_cons.2 ⟨e201, List.forall_mem_cons.2 ⟨e202, List.forall_mem_cons.2 ⟨e203, List.forall_mem_cons.2 ⟨e204, List.forall_mem_cons.2 ⟨e205, List.forall_mem_cons.2 ⟨e206, List.forall_mem_cons.2 ⟨e207, List.forall_mem_cons.2 ⟨e208, List.forall_mem_cons.2 ⟨e245, fun _ h => nomatch h⟩⟩⟩⟩⟩⟩⟩⟩⟩⟩⟩⟩⟩⟩⟩⟩⟩⟩⟩⟩⟩⟩⟩⟩⟩⟩⟩⟩⟩⟩⟩⟩⟩⟩⟩⟩⟩⟩⟩⟩⟩⟩⟩⟩⟩⟩⟩⟩⟩⟩⟩⟩⟩⟩⟩⟩⟩⟩⟩⟩⟩⟩⟩⟩⟩⟩⟩⟩⟩⟩⟩⟩⟩⟩⟩⟩⟩⟩⟩⟩⟩⟩⟩
def canL : List Nat := [3, 4, 5, 6, 7, 8, 9, 10, 11, 12, 13, 14, 15, 16, 17, 18, 19, 20, 21, 22, 23, 24, 25, 26, 27, 28, 29, 30, 31, 32, 33, 34, 35, 36, 37, 38, 39, 40, 41, 42, 43, 44, 45, 46, 47, 48, 49, 50, 51, 52, 53, 54, 55, 56, 57, 59, 60, 61, 62, 63, 64, 65, 67, 68, 72, 73, 74, 75, 76, 77, 78, 79, 80, 81, 82, 83, 84, 85, 86, 88, 91, 92, 93, 94, 95, 96, 97, 98, 99, 100, 109, 110, 117, 126, 129, 130, 139, 143, 163, 164, 167, 170, 175, 178, 181, 184, 187, 190, 193, 196, 199, 202, 205, 208, 211, 212, 215, 218, 219, 222, 225, 228, 231, 234, 237, 240, 243, 246, 249, 254, 259, 260, 263, 266, 267, 268, 271, 274, 275, 281]
theorem c3 : ∀ args w, (callFunc 3 args).run Tryz.prog w = .ok (.enter 3 args) w := call_of Tryz.func3 (by kernel_rfl) (by kernel_rfl)
theorem c4 : ∀ args w, (callFunc 4 args).run Tryz.prog w = .ok (.enter 4 args) w := call_of Tryz.func4 (by kernel_rfl) (by kernel_rfl)
theorem c5 : ∀ args w, (callFunc 5 args).run Tryz.prog w = .ok (.enter 5 args) w := call_of Tryz.func5 (by kernel_rfl) (by kernel_rfl)
theorem c6 : ∀ args w, (callFunc 6 args).run Tryz.prog w = .ok (.enter 6 args) w := call_of Tryz.func6 (by kernel_rfl) (by kernel_rfl)
theorem c7 : ∀ args w, (callFunc 7 args).run Tryz.prog w = .ok (.enter 7 args) w := call_of Tryz.func7 (by kernel_rfl) (by kernel_rfl)
theorem c8 : ∀ args w, (callFunc 8 args).run Tryz.prog w = .ok (.enter 8 args) w := call_of Tryz.func8 (by kernel_rfl) (by kernel_rfl)
theorem c9 : ∀ args w, (callFunc 9 args).run Tryz.prog w = .ok (.enter 9 args) w := call_of Tryz.func9 (by kernel_rfl) (by kernel_rfl)
theorem c10 : ∀ args w, (callFunc 10 args).run Tryz.prog w = .ok (.enter 10 args) w := call_of Tryz.func10 (by kernel_rfl) (by kernel_rfl)
theorem c11 : ∀ args w, (callFunc 11 args).run Tryz.prog w = .ok (.enter 11 args) w := call_of Tryz.func11 (by kernel_rfl) (by kernel_rfl)
theorem c12 : ∀ args w, (callFunc 12 args).run Tryz.prog w = .ok (.enter 12 args) w := call_of Tryz.func12 (by kernel_rfl) (by kernel_rfl)
theorem c13 : ∀ args w, (callFunc 13 args).run Tryz.prog w = .ok (.enter 13 args) w := call_of Tryz.func13 (by kernel_rfl) (by kernel_rfl)
theorem c14 : ∀ args w, (callFunc 14 args).run Tryz.prog w = .ok (.enter 14 args) w := call_of Tryz.func14 (by kernel_rfl) (by kernel_rfl)
theorem c15 : ∀ args w, (callFunc 15 args).run Tryz.prog w = .ok (.enter 15 args) w := call_of Tryz.func15 (by kernel_rfl) (by kernel_rfl)
theorem c16 : ∀ args w, (callFunc 16 args).run Tryz.prog w = .ok (.enter 16 args) w := call_of Tryz.func16 (by kernel_rfl) (by kernel_rfl)
theorem c17 : ∀ args w, (callFunc 17 args).run Tryz.prog w = .ok (.enter 17 args) w := call_of Tryz.func17 (by kernel_rfl) (by kernel_rfl)
theorem c18 : ∀ args w, (callFunc 18 args).run Tryz.prog w = .ok (.enter 18 args) w := call_of Tryz.func18 (by kernel_rfl) (by kernel_rfl)
theorem c19 : ∀ args w, (callFunc 19 args).run Tryz.prog w = .ok (.enter 19 args) w := call_of Tryz.func19 (by kernel_rfl) (by kernel_rfl)
theorem c20 : ∀ args w, (callFunc 20 args).run Tryz.prog w = .ok (.enter 20 args) w := call_of Tryz.func20 (by kernel_rfl) (by kernel_rfl)
theorem c21 : ∀ args w, (callFunc 21 args).run Tryz.prog w = .ok (.enter 21 args) w := call_of Tryz.func21 (by kernel_rfl) (by kernel_rfl)
theorem c22 : ∀ args w, (callFunc 22 args).run Tryz.prog w = .ok (.enter 22 args) w := call_of Tryz.func22 (by kernel_rfl) (by kernel_rfl)
theorem c23 : ∀ args w, (callFunc 23 args).run Tryz.prog w = .ok (.enter 23 args) w := call_of Tryz.func23 (by kernel_rfl) (by kernel_rfl)
theorem c24 : ∀ args w, (callFunc 24 args).run Tryz.prog w = .ok (.enter 24 args) w := call_of Tryz.func24 (by kernel_rfl) (by kernel_rfl)
theorem c25 : ∀ args w, (callFunc 25 args).run Tryz.prog w = .ok (.enter 25 args) w := call_of Tryz.func25 (by kernel_rfl) (by kernel_rfl)
theorem c26 : ∀ args w, (callFunc 26 args).run Tryz.prog w = .ok (.enter 26 args) w := call_of Tryz.func26 (by kernel_rfl) (by kernel_rfl)
theorem c27 : ∀ args w, (callFunc 27 args).run Tryz.prog w = .ok (.enter 27 args) w := call_of Tryz.func27 (by kernel_rfl) (by kernel_rfl)
theorem c28 : ∀ args w, (callFunc 28 args).run Tryz.prog w = .ok (.enter 28 args) w := call_of Tryz.func28 (by kernel_rfl) (by kernel_rfl)
theorem c29 : ∀ args w, (callFunc 29 args).run Tryz.prog w = .ok (.enter 29 args) w := call_of Tryz.func29 (by kernel_rfl) (by kernel_rfl)
theorem c30 : ∀ args w, (callFunc 30 args).run Tryz.prog w = .ok (.enter 30 args) w := call_of Tryz.func30 (by kernel_rfl) (by kernel_rfl)
theorem c31 : ∀ args w, (callFunc 31 args).run Tryz.prog w = .ok (.enter 31 args) w := call_of Tryz.func31 (by kernel_rfl) (by kernel_rfl)
theorem c32 : ∀ args w, (callFunc 32 args).run Tryz.prog w = .ok (.enter 32 args) w := call_of Tryz.func32 (by kernel_rfl) (by kernel_rfl)
theorem c33 : ∀ args w, (callFunc 33 args).run Tryz.prog w = .ok (.enter 33 args) w := call_of Tryz.func33 (by kernel_rfl) (by kernel_rfl)
theorem c34 : ∀ args w, (callFunc 34 args).run Tryz.prog w = .ok (.enter 34 args) w := call_of Tryz.func34 (by kernel_rfl) (by kernel_rfl)
theorem c35 : ∀ args w, (callFunc 35 args).run Tryz.prog w = .ok (.enter 35 args) w := call_of Tryz.func35 (by kernel_rfl) (by kernel_rfl)
theorem c36 : ∀ args w, (callFunc 36 args).run Tryz.prog w = .ok (.enter 36 args) w := call_of Tryz.func36 (by kernel_rfl) (by kernel_rfl)
theorem c37 : ∀ args w, (callFunc 37 args).run Tryz.prog w = .ok (.enter 37 args) w := call_of Tryz.func37 (by kernel_rfl) (by kernel_rfl)
theorem c38 : ∀ args w, (callFunc 38 args).run Tryz.prog w = .ok (.enter 38 args) w := call_of Tryz.func38 (by kernel_rfl) (by kernel_rfl)
theorem c39 : ∀ args w, (callFunc 39 args).run Tryz.prog w = .ok (.enter 39 args) w := call_of Tryz.func39 (by kernel_rfl) (by kernel_rfl)
theorem c40 : ∀ args w, (callFunc 40 args).run Tryz.prog w = .ok (.enter 40 args) w := call_of Tryz.func40 (by kernel_rfl) (by kernel_rfl)
theorem c41 : ∀ args w, (callFunc 41 args).run Tryz.prog w = .ok (.enter 41 args) w := call_of Tryz.func41 (by kernel_rfl) (by kernel_rfl)
theorem c42 : ∀ args w, (callFunc 42 args).run Tryz.prog w = .ok (.enter 42 args) w := call_of Tryz.func42 (by kernel_rfl) (by kernel_rfl)
theorem c43 : ∀ args w, (callFunc 43 args).run Tryz.prog w = .ok (.enter 43 args) w := call_of Tryz.func43 (by kernel_rfl) (by kernel_rfl)
theorem c44 : ∀ args w, (callFunc 44 args).run Tryz.prog w = .ok (.enter 44 args) w := call_of Tryz.func44 (by kernel_rfl) (by kernel_rfl)
theorem c45 : ∀ args w, (callFunc 45 args).run Tryz.prog w = .ok (.enter 45 args) w := call_of Tryz.func45 (by kernel_rfl) (by kernel_rfl)
theorem c46 : ∀ args w, (callFunc 46 args).run Tryz.prog w = .ok (.enter 46 args) w := call_of Tryz.func46 (by kernel_rfl) (by kernel_rfl)
theorem c47 : ∀ args w, (callFunc 47 args).run Tryz.prog w = .ok (.enter 47 args) w := call_of Tryz.func47 (by kernel_rfl) (by kernel_rfl)
theorem c48 : ∀ args w, (callFunc 48 args).run Tryz.prog w = .ok (.enter 48 args) w := call_of Tryz.func48 (by kernel_rfl) (by kernel_rfl)
theorem c49 : ∀ args w, (callFunc 49 args).run Tryz.prog w = .ok (.enter 49 args) w := call_of Tryz.func49 (by kernel_rfl) (by kernel_rfl)
theorem c50 : ∀ args w, (callFunc 50 args).run Tryz.prog w = .ok (.enter 50 args) w := call_of Tryz.func50 (by kernel_rfl) (by kernel_rfl)
theorem c51 : ∀ args w, (callFunc 51 args).run Tryz.prog w = .ok (.enter 51 args) w := call_of Tryz.func51 (by kernel_rfl) (by kernel_rfl)
theorem c52 : ∀ args w, (callFunc 52 args).run Tryz.prog w = .ok (.enter 52 args) w := call_of Tryz.func52 (by kernel_rfl) (by kernel_rfl)
theorem c53 : ∀ args w, (callFunc 53 args).run Tryz.prog w = .ok (.enter 53 args) w := call_of Tryz.func53 (by kernel_rfl) (by kernel_rfl)
theorem c54 : ∀ args w, (callFunc 54 args).run Tryz.prog w = .ok (.enter 54 args) w := call_of Tryz.func54 (by kernel_rfl) (by kernel_rfl)
theorem c55 : ∀ args w, (callFunc 55 args).run Tryz.prog w = .ok (.enter 55 args) w := call_of Tryz.func55 (by kernel_rfl) (by kernel_rfl)
theorem c56 : ∀ args w, (callFunc 56 args).run Tryz.prog w = .ok (.enter 56 args) w := call_of Tryz.func56 (by kernel_rfl) (by kernel_rfl)
theorem c57 : ∀ args w, (callFunc 57 args).run Tryz.prog w = .ok (.enter 57 args) w := call_of Tryz.func57 (by kernel_rfl) (by kernel_rfl)
theorem c59 : ∀ args w, (callFunc 59 args).run Tryz.prog w = .ok (.enter 59 args) w := call_of Tryz.func59 (by kernel_rfl) (by kernel_rfl)
theorem c60 : ∀ args w, (callFunc 60 args).run Tryz.prog w = .ok (.enter 60 args) w := call_of Tryz.func60 (by kernel_rfl) (by kernel_rfl)
theorem c61 : ∀ args w, (callFunc 61 args).run Tryz.prog w = .ok (.enter 61 args) w := call_of Tryz.func61 (by kernel_rfl) (by kernel_rfl)
theorem c62 : ∀ args w, (callFunc 62 args).run Tryz.prog w = .ok (.enter 62 args) w := call_of Tryz.func62 (by kernel_rfl) (by kernel_rfl)
theorem c63 : ∀ args w, (callFunc 63 args).run Tryz.prog w = .ok (.enter 63 args) w := call_of Tryz.func63 (by kernel_rfl) (by kernel_rfl)
theorem c64 : ∀ args w, (callFunc 64 args).run Tryz.prog w = .ok (.enter 64 args) w := call_of Tryz.func64 (by kernel_rfl) (by kernel_rfl)
theorem c65 : ∀ args w, (callFunc 65 args).run Tryz.prog w = .ok (.enter 65 args) w := call_of Tryz.func65 (by kernel_rfl) (by kernel_rfl)
theorem c67 : ∀ args w, (callFunc 67 args).run Tryz.prog w = .ok (.enter 67 args) w := call_of Tryz.func67 (by kernel_rfl) (by kernel_rfl)
theorem c68 : ∀ args w, (callFunc 68 args).run Tryz.prog w = .ok (.enter 68 args) w := call_of Tryz.func68 (by kernel_rfl) (by kernel_rfl)
theorem c72 : ∀ args w, (callFunc 72 args).run Tryz.prog w = .ok (.enter 72 args) w := call_of Tryz.func72 (by kernel_rfl) (by kernel_rfl)
theorem c73 : ∀ args w, (callFunc 73 args).run Tryz.prog w = .ok (.enter 73 args) w := call_of Tryz.func73 (by kernel_rfl) (by kernel_rfl)
theorem c74 : ∀ args w, (callFunc 74 args).run Tryz.prog w = .ok (.enter 74 args) w := call_of Tryz.func74 (by kernel_rfl) (by kernel_rfl)
theorem c75 : ∀ args w, (callFunc 75 args).run Tryz.prog w = .ok (.enter 75 args) w := call_of Tryz.func75 (by kernel_rfl) (by kernel_rfl)
theorem c76 : ∀ args w, (callFunc 76 args).run Tryz.prog w = .ok (.enter 76 args) w := call_of Tryz.func76 (by kernel_rfl) (by kernel_rfl)
theorem c77 : ∀ args w, (callFunc 77 args).run Tryz.prog w = .ok (.enter 77 args) w := call_of Tryz.func77 (by kernel_rfl) (by kernel_rfl)
theorem c78 : ∀ args w, (callFunc 78 args).run Tryz.prog w = .ok (.enter 78 args) w := call_of Tryz.func78 (by kernel_rfl) (by kernel_rfl)
theorem c79 : ∀ args w, (callFunc 79 args).run Tryz.prog w = .ok (.enter 79 args) w := call_of Tryz.func79 (by kernel_rfl) (by kernel_rfl)
theorem c80 : ∀ args w, (callFunc 80 args).run Tryz.prog w = .ok (.enter 80 args) w := call_of Tryz.func80 (by kernel_rfl) (by kernel_rfl)
theorem c81 : ∀ args w, (callFunc 81 args).run Tryz.prog w = .ok (.enter 81 args) w := call_of Tryz.func81 (by kernel_rfl) (by kernel_rfl)
theorem c82 : ∀ args w, (callFunc 82 args).run Tryz.prog w = .ok (.enter 82 args) w := call_of Tryz.func82 (by kernel_rfl) (by kernel_rfl)
theorem c83 : ∀ args w, (callFunc 83 args).run Tryz.prog w = .ok (.enter 83 args) w := call_of Tryz.func83 (by kernel_rfl) (by kernel_rfl)
theorem c84 : ∀ args w, (callFunc 84 args).run Tryz.prog w = .ok (.enter 84 args) w := call_of Tryz.func84 (by kernel_rfl) (by kernel_rfl)
theorem c85 : ∀ args w, (callFunc 85 args).run Tryz.prog w = .ok (.enter 85 args) w := call_of Tryz.func85 (by kernel_rfl) (by kernel_rfl)
theorem c86 : ∀ args w, (callFunc 86 args).run Tryz.prog w = .ok (.enter 86 args) w := call_of Tryz.func86 (by kernel_rfl) (by kernel_rfl)
theorem c88 : ∀ args w, (callFunc 88 args).run Tryz.prog w = .ok (.enter 88 args) w := call_of Tryz.func88 (by kernel_rfl) (by kernel_rfl)
theorem c91 : ∀ args w, (callFunc 91 args).run Tryz.prog w = .ok (.enter 91 args) w := call_of Tryz.func91 (by kernel_rfl) (by kernel_rfl)
theorem c92 : ∀ args w, (callFunc 92 args).run Tryz.prog w = .ok (.enter 92 args) w := call_of Tryz.func92 (by kernel_rfl) (by kernel_rfl)
theorem c93 : ∀ args w, (callFunc 93 args).run Tryz.prog w = .ok (.enter 93 args) w := call_of Tryz.func93 (by kernel_rfl) (by kernel_rfl)
theorem c94 : ∀ args w, (callFunc 94 args).run Tryz.prog w = .ok (.enter 94 args) w := call_of Tryz.func94 (by kernel_rfl) (by kernel_rfl)
theorem c95 : ∀ args w, (callFunc 95 args).run Tryz.prog w = .ok (.enter 95 args) w := call_of Tryz.func95 (by kernel_rfl) (by kernel_rfl)
theorem c96 : ∀ args w, (callFunc 96 args).run Tryz.prog w = .ok (.enter 96 args) w := call_of Tryz.func96 (by kernel_rfl) (by kernel_rfl)
theorem c97 : ∀ args w, (callFunc 97 args).run Tryz.prog w = .ok (.enter 97 args) w := call_of Tryz.func97 (by kernel_rfl) (by kernel_rfl)
theorem c98 : ∀ args w, (callFunc 98 args).run Tryz.prog w = .ok (.enter 98 args) w := call_of Tryz.func98 (by kernel_rfl) (by kernel_rfl)
theorem c99 : ∀ args w, (callFunc 99 args).run Tryz.prog w = .ok (.enter 99 args) w := call_of Tryz.func99 (by kernel_rfl) (by kernel_rfl)
theorem c100 : ∀ args w, (callFunc 100 args).run Tryz.prog w = .ok (.enter 100 args) w := call_of Tryz.func100 (by kernel_rfl) (by kernel_rfl)
theorem c109 : ∀ args w, (callFunc 109 args).run Tryz.prog w = .ok (.enter 109 args) w := call_of Tryz.func109 (by kernel_rfl) (by kernel_rfl)
theorem c110 : ∀ args w, (callFunc 110 args).run Tryz.prog w = .ok (.enter 110 args) w := call_of Tryz.func110 (by kernel_rfl) (by kernel_rfl)
theorem c117 : ∀ args w, (callFunc 117 args).run Tryz.prog w = .ok (.enter 117 args) w := call_of Tryz.func117 (by kernel_rfl) (by kernel_rfl)
theorem c126 : ∀ args w, (callFunc 126 args).run Tryz.prog w = .ok (.enter 126 args) w := call_of Tryz.func126 (by kernel_rfl) (by kernel_rfl)
theorem c129 : ∀ args w, (callFunc 129 args).run Tryz.prog w = .ok (.enter 129 args) w := call_of Tryz.func129 (by kernel_rfl) (by kernel_rfl)
theorem c130 : ∀ args w, (callFunc 130 args).run Tryz.prog w = .ok (.enter 130 args) w := call_of Tryz.func130 (by kernel_rfl) (by kernel_rfl)
theorem c139 : ∀ args w, (callFunc 139 args).run Tryz.prog w = .ok (.enter 139 args) w := call_of Tryz.func139 (by kernel_rfl) (by kernel_rfl)
theorem c143 : ∀ args w, (callFunc 143 args).run Tryz.prog w = .ok (.enter 143 args) w := call_of Tryz.func143 (by kernel_rfl) (by kernel_rfl)
theorem c163 : ∀ args w, (callFunc 163 args).run Tryz.prog w = .ok (.enter 163 args) w := call_of Tryz.func163 (by kernel_rfl) (by kernel_rfl)
theorem c164 : ∀ args w, (callFunc 164 args).run Tryz.prog w = .ok (.enter 164 args) w := call_of Tryz.func164 (by kernel_rfl) (by kernel_rfl)
theorem c167 : ∀ args w, (callFunc 167 args).run Tryz.prog w = .ok (.enter 167 args) w := call_of Tryz.func167 (by kernel_rfl) (by kernel_rfl)
theorem c170 : ∀ args w, (callFunc 170 args).run Tryz.prog w = .ok (.enter 170 args) w := call_of Tryz.func170 (by kernel_rfl) (by kernel_rfl)
theorem c175 : ∀ args w, (callFunc 175 args).run Tryz.prog w = .ok (.enter 175 args) w := call_of Tryz.func175 (by kernel_rfl) (by kernel_rfl)
theorem c178 : ∀ args w, (callFunc 178 args).run Tryz.prog w = .ok (.enter 178 args) w := call_of Tryz.func178 (by kernel_rfl) (by kernel_rfl)
theorem c181 : ∀ args w, (callFunc 181 args).run Tryz.prog w = .ok (.enter 181 args) w := call_of Tryz.func181 (by kernel_rfl) (by kernel_rfl)
theorem c184 : ∀ args w, (callFunc 184 args).run Tryz.prog w = .ok (.enter 184 args) w := call_of Tryz.func184 (by kernel_rfl) (by kernel_rfl)
theorem c187 : ∀ args w, (callFunc 187 args).run Tryz.prog w = .ok (.enter 187 args) w := call_of Tryz.func187 (by kernel_rfl) (by kernel_rfl)
theorem c190 : ∀ args w, (callFunc 190 args).run Tryz.prog w = .ok (.enter 190 args) w := call_of Tryz.func190 (by kernel_rfl) (by kernel_rfl)
theorem c193 : ∀ args w, (callFunc 193 args).run Tryz.prog w = .ok (.enter 193 args) w := call_of Tryz.func193 (by kernel_rfl) (by kernel_rfl)
theorem c196 : ∀ args w, (callFunc 196 args).run Tryz.prog w = .ok (.enter 196 args) w := call_of Tryz.func196 (by kernel_rfl) (by kernel_rfl)
theorem c199 : ∀ args w, (callFunc 199 args).run Tryz.prog w = .ok (.enter 199 args) w := call_of Tryz.func199 (by kernel_rfl) (by kernel_rfl)
theorem c202 : ∀ args w, (callFunc 202 args).run Tryz.prog w = .ok (.enter 202 args) w := call_of Tryz.func202 (by kernel_rfl) (by kernel_rfl)
theorem c205 : ∀ args w, (callFunc 205 args).run Tryz.prog w = .ok (.enter 205 args) w := call_of Tryz.func205 (by kernel_rfl) (by kernel_rfl)
theorem c208 : ∀ args w, (callFunc 208 args).run Tryz.prog w = .ok (.enter 208 args) w := call_of Tryz.func208 (by kernel_rfl) (by kernel_rfl)
theorem c211 : ∀ args w, (callFunc 211 args).run Tryz.prog w = .ok (.enter 211 args) w := call_of Tryz.func211 (by kernel_rfl) (by kernel_rfl)
theorem c212 : ∀ args w, (callFunc 212 args).run Tryz.prog w = .ok (.enter 212 args) w := call_of Tryz.func212 (by kernel_rfl) (by kernel_rfl)
theorem c215 : ∀ args w, (callFunc 215 args).run Tryz.prog w = .ok (.enter 215 args) w := call_of Tryz.func215 (by kernel_rfl) (by kernel_rfl)
theorem c218 : ∀ args w, (callFunc 218 args).run Tryz.prog w = .ok (.enter 218 args) w := call_of Tryz.func218 (by kernel_rfl) (by kernel_rfl)
theorem c219 : ∀ args w, (callFunc 219 args).run Tryz.prog w = .ok (.enter 219 args) w := call_of Tryz.func219 (by kernel_rfl) (by kernel_rfl)
theorem c222 : ∀ args w, (callFunc 222 args).run Tryz.prog w = .ok (.enter 222 args) w := call_of Tryz.func222 (by kernel_rfl) (by kernel_rfl)
theorem c225 : ∀ args w, (callFunc 225 args).run Tryz.prog w = .ok (.enter 225 args) w := call_of Tryz.func225 (by kernel_rfl) (by kernel_rfl)
theorem c228 : ∀ args w, (callFunc 228 args).run Tryz.prog w = .ok (.enter 228 args) w := call_of Tryz.func228 (by kernel_rfl) (by kernel_rfl)
theorem c231 : ∀ args w, (callFunc 231 args).run Tryz.prog w = .ok (.enter 231 args) w := call_of Tryz.func231 (by kernel_rfl) (by kernel_rfl)
theorem c234 : ∀ args w, (callFunc 234 args).run Tryz.prog w = .ok (.enter 234 args) w := call_of Tryz.func234 (by kernel_rfl) (by kernel_rfl)
theorem c237 : ∀ args w, (callFunc 237 args).run Tryz.prog w = .ok (.enter 237 args) w := call_of Tryz.func237 (by kernel_rfl) (by kernel_rfl)
theorem c240 : ∀ args w, (callFunc 240 args).run Tryz.prog w = .ok (.enter 240 args) w := call_of Tryz.func240 (by kernel_rfl) (by kernel_rfl)
theorem c243 : ∀ args w, (callFunc 243 args).run Tryz.prog w = .ok (.enter 243 args) w := call_of Tryz.func243 (by kernel_rfl) (by kernel_rfl)
theorem c246 : ∀ args w, (callFunc 246 args).run Tryz.prog w = .ok (.enter 246 args) w := call_of Tryz.func246 (by kernel_rfl) (by kernel_rfl)
theorem c249 : ∀ args w, (callFunc 249 args).run Tryz.prog w = .ok (.enter 249 args) w := call_of Tryz.func249 (by kernel_rfl) (by kernel_rfl)
theorem c254 : ∀ args w, (callFunc 254 args).run Tryz.prog w = .ok (.enter 254 args) w := call_of Tryz.func254 (by kernel_rfl) (by kernel_rfl)
theorem c259 : ∀ args w, (callFunc 259 args).run Tryz.prog w = .ok (.enter 259 args) w := call_of Tryz.func259 (by kernel_rfl) (by kernel_rfl)
theorem c260 : ∀ args w, (callFunc 260 args).run Tryz.prog w = .ok (.enter 260 args) w := call_of Tryz.func260 (by kernel_rfl) (by kernel_rfl)
theorem c263 : ∀ args w, (callFunc 263 args).run Tryz.prog w = .ok (.enter 263 args) w := call_of Tryz.func263 (by kernel_rfl) (by kernel_rfl)
theorem c266 : ∀ args w, (callFunc 266 args).run Tryz.prog w = .ok (.enter 266 args) w := call_of Tryz.func266 (by kernel_rfl) (by kernel_rfl)
theorem c267 : ∀ args w, (callFunc 267 args).run Tryz.prog w = .ok (.enter 267 args) w := call_of Tryz.func267 (by kernel_rfl) (by kernel_rfl)
theorem c268 : ∀ args w, (callFunc 268 args).run Tryz.prog w = .ok (.enter 268 args) w := call_of Tryz.func268 (by kernel_rfl) (by kernel_rfl)
theorem c271 : ∀ args w, (callFunc 271 args).run Tryz.prog w = .ok (.enter 271 args) w := call_of Tryz.func271 (by kernel_rfl) (by kernel_rfl)
theorem c274 : ∀ args w, (callFunc 274 args).run Tryz.prog w = .ok (.enter 274 args) w := call_of Tryz.func274 (by kernel_rfl) (by kernel_rfl)
theorem c275 : ∀ args w, (callFunc 275 args).run Tryz.prog w = .ok (.enter 275 args) w := call_of Tryz.func275 (by kernel_rfl) (by kernel_rfl)
theorem c281 : ∀ args w, (callFunc 281 args).run Tryz.prog w = .ok (.enter 281 args) w := call_of Tryz.func281 (by kernel_rfl) (by kernel_rfl)
def can (f : FuncId) : Bool := memb f canL
theorem memb_mem : ∀ (b : Nat) (l : List Nat), memb b l = true → b ∈ l
  | _, [], h => by cases h
  | b, x :: r, h => by
    simp only [memb] at h
    cases hb : Nat.beq x b with
    | true => rw [← Nat.eq_of_beq_eq_true hb]; exact List.mem_cons_self ..
    | false => rw [hb] at h; exact List.mem_cons_of_mem _ (memb_mem b r h)
def CallOK (f : FuncId) : Prop := ∀ args w, (callFunc f args).run Tryz.prog w = .ok (.enter f args) w
theorem canAll : ∀ f ∈ canL, CallOK f := List.forall_mem_cons.2 ⟨c3, List.forall_mem_cons.2 ⟨c4, List.forall_mem_cons.2 ⟨c5, List.forall_mem_cons.2 ⟨c6, List.forall_mem_cons.2 ⟨c7, List.forall_mem_cons.2 ⟨c8, List.forall_mem_cons.2 ⟨c9, List.forall_mem_cons.2 ⟨c10, List.forall_mem_cons.2 ⟨c11, List.forall_mem_cons.2 ⟨c12, List.forall_mem_cons.2 ⟨c13, List.forall_mem_cons.2 ⟨c14, List.forall_mem_cons.2 ⟨c15, List.forall_mem_cons.2 ⟨c16, List.forall_mem_cons.2 ⟨c17, List.forall_mem_cons.2 ⟨c18, List.forall_mem_cons.2 ⟨c19, List.forall_mem_cons.2 ⟨c20, List.forall_mem_cons.2 ⟨c21, List.forall_mem_cons.2 ⟨c22, List.forall_mem_cons.2 ⟨c23, List.forall_mem_cons.2 ⟨c24, List.forall_mem_cons.2 ⟨c25, List.forall_mem_cons.2 ⟨c26, List.forall_mem_cons.2 ⟨c27, List.forall_mem_cons.2 ⟨c28, List.forall_mem_cons.2 ⟨c29, List.forall_mem_cons.2 ⟨c30, List.forall_mem_cons.2 ⟨c31, List.forall_mem_cons.2 ⟨c32, List.forall_mem_cons.2 ⟨c33, List.forall_mem_cons.2 ⟨c34, List.forall_mem_cons.2 ⟨c35, List.forall_mem_cons.2 ⟨c36, List.forall_mem_cons.2 ⟨c37, List.forall_mem_cons.2 ⟨c38, List.forall_mem_cons.2 ⟨c39, List.forall_mem_cons.2 ⟨c40, List.forall_mem_cons.2 ⟨c41, List.forall_mem_cons.2 ⟨c42, List.forall_mem_cons.2 ⟨c43, List.forall_mem_cons.2 ⟨c44, List.forall_mem_cons.2 ⟨c45, List.forall_mem_cons.2 ⟨c46, List.forall_mem_cons.2 ⟨c47, List.forall_mem_cons.2 ⟨c48, List.forall_mem_cons.2 ⟨c49, List.forall_mem_cons.2 ⟨c50, List.forall_mem_cons.2 ⟨c51, List.forall_mem_cons.2 ⟨c52, List.forall_mem_cons.2 ⟨c53, List.forall_mem_cons.2 ⟨c54, List.forall_mem_cons.2 ⟨c55, List.forall_mem_cons.2 ⟨c56, List.forall_mem_cons.2 ⟨c57, List.forall_mem_cons.2 ⟨c59, List.forall_mem_cons.2 ⟨c60, List.forall_mem_cons.2 ⟨c61, List.forall_mem_cons.2 ⟨c62, List.forall_mem_cons.2 ⟨c63, List.forall_mem_cons.2 ⟨c64, List.forall_mem_cons.2 ⟨c65, List.forall_mem_cons.2 ⟨c67, List.forall_mem_cons.2 ⟨c68, List.forall_mem_cons.2 ⟨c72, List.forall_mem_cons.2 ⟨c73, List.forall_mem_cons.2 ⟨c74, List.forall_mem_cons.2 ⟨c75, List.forall_mem_cons.2 ⟨c76, List.forall_mem_cons.2 ⟨c77, List.forall_mem_cons.2 ⟨c78, List.forall_mem_cons.2 ⟨c79, List.forall_mem_cons.2 ⟨c80, List.forall_mem_cons.2 ⟨c81, List.forall_mem_cons.2 ⟨c82, List.forall_mem_cons.2 ⟨c83, List.forall_mem_cons.2 ⟨c84, List.forall_mem_cons.2 ⟨c85, List.forall_mem_cons.2 ⟨c86, List.forall_mem_cons.2 ⟨c88, List.forall_mem_cons.2 ⟨c91, List.forall_mem_cons.2 ⟨c92, List.forall_mem_cons.2 ⟨c93, List.forall_mem_cons.2 ⟨c94, List.forall_mem_cons.2 ⟨c95, List.forall_mem_cons.2 ⟨c96, List.forall_mem_cons.2 ⟨c97, List.forall_mem_cons.2 ⟨c98, List.forall_mem_cons.2 ⟨c99, List.forall_mem_cons.2 ⟨c100, List.forall_mem_cons.2 ⟨c109, List.forall_mem_cons.2 ⟨c110, List.forall_mem_cons.2 ⟨c117, List.forall_mem_cons.2 ⟨c126, List.forall_mem_cons.2 ⟨c129, List.forall_mem_cons.2 ⟨c130, List.forall_mem_cons.2 ⟨c139, List.forall_mem_cons.2 ⟨c143, List.forall_mem_cons.2 ⟨c163, List.forall_mem_cons.2 ⟨c164, List.forall_mem_cons.2 ⟨c167, List.forall_mem_cons.2 ⟨c170, List.forall_mem_cons.2 ⟨c175, List.forall_mem_cons.2 ⟨c178, List.forall_mem_cons.2 ⟨c181, List.forall_mem_cons.2 ⟨c184, List.forall_mem_cons.2 ⟨c187, List.forall_mem_cons.2 ⟨c190, List.forall_mem_cons.2 ⟨c193, List.forall_mem_cons.2 ⟨c196, List.forall_mem_cons.2 ⟨c199, List.forall_mem_cons.2 ⟨c202, List.forall_mem_cons.2 ⟨c205, List.forall_mem_cons.2 ⟨c208, List.forall_mem_cons.2 ⟨c211, List.forall_mem_cons.2 ⟨c212, List.forall_mem_cons.2 ⟨c215, List.forall_mem_cons.2 ⟨c218, List.forall_mem_cons.2 ⟨c219, List.forall_mem_cons.2 ⟨c222, List.forall_mem_cons.2 ⟨c225, List.forall_mem_cons.2 ⟨c228, List.forall_mem_cons.2 ⟨c231, List.forall_mem_cons.2 ⟨c234, List.forall_mem_cons.2 ⟨c237, List.forall_mem_cons.2 ⟨c240, List.forall_mem_cons.2 ⟨c243, List.forall_mem_cons.2 ⟨c246, List.forall_mem_cons.2 ⟨c249, List.forall_mem_cons.2 ⟨c254, List.forall_mem_cons.2 ⟨c259, List.forall_mem_cons.2 ⟨c260, List.forall_mem_cons.2 ⟨c263, List.forall_mem_cons.2 ⟨c266, List.forall_mem_cons.2 ⟨c267, List.forall_mem_cons.2 ⟨c268, List.forall_mem_cons.2 ⟨c271, List.forall_mem_cons.2 ⟨c274, List.forall_mem_cons.2 ⟨c275, List.forall_mem_cons.2 ⟨c281, fun _ h => nomatch h⟩⟩⟩⟩⟩⟩⟩⟩⟩⟩⟩⟩⟩⟩⟩⟩⟩⟩⟩⟩⟩⟩⟩⟩⟩⟩⟩⟩⟩⟩⟩⟩⟩⟩⟩⟩⟩⟩⟩⟩⟩⟩⟩⟩⟩⟩⟩⟩⟩⟩⟩⟩⟩⟩⟩⟩⟩⟩⟩⟩⟩⟩⟩⟩⟩⟩⟩⟩⟩⟩⟩⟩⟩⟩⟩⟩⟩⟩⟩⟩⟩⟩⟩⟩⟩⟩⟩⟩⟩⟩⟩⟩⟩⟩⟩⟩⟩⟩⟩⟩⟩⟩⟩⟩⟩⟩⟩⟩⟩⟩⟩⟩⟩⟩⟩⟩⟩⟩⟩⟩⟩⟩⟩⟩⟩⟩⟩⟩⟩⟩⟩⟩⟩⟩⟩⟩⟩⟩⟩⟩
theorem canOK : ∀ f, can f = true → ∀ args w, (callFunc f args).run Tryz.prog w = .ok (.enter f args) w := fun f h => canAll f (memb_mem f canL h)
def ml189 : List (String × Nat) := [("shard/wire.order", 163), ("shard/wire.rule", 164)]
def ml191 : List (String × Nat) := [("shard/wire.order", 163), ("shard/wire.rule", 167), ("shard/wire.wipe", 170)]
def ml192 : List (String × Nat) := [("shard/wire.order", 163), ("shard/wire.rule", 164), ("shard/wire.wipe", 175)]
def ml193 : List (String × Nat) := [("shard/wire.order", 163), ("shard/wire.rule", 178), ("shard/wire.wipe", 181)]
def ml194 : List (String × Nat) := [("shard/wire.order", 163), ("shard/wire.rule", 184), ("shard/wire.wipe", 187)]
def ml195 : List (String × Nat) := [("shard/wire.order", 163), ("shard/wire.rule", 190), ("shard/wire.wipe", 193)]
def ml196 : List (String × Nat) := [("shard/wire.order", 163), ("shard/wire.rule", 196), ("shard/wire.wipe", 199)]
def ml197 : List (String × Nat) := [("shard/wire.order", 163), ("shard/wire.rule", 202), ("shard/wire.wipe", 205)]
def ml198 : List (String × Nat) := [("shard/wire.order", 163), ("shard/wire.rule", 208), ("shard/wire.wipe", 211)]
def ml199 : List (String × Nat) := [("shard/wire.order", 212), ("shard/wire.parts", 219), ("shard/wire.rule", 215), ("shard/wire.wipe", 218)]
def ml200 : List (String × Nat) := [("shard/wire.order", 163), ("shard/wire.rule", 222), ("shard/wire.wipe", 225)]
def ml201 : List (String × Nat) := [("shard/wire.order", 163), ("shard/wire.rule", 228), ("shard/wire.wipe", 231)]
def ml202 : List (String × Nat) := [("shard/wire.order", 163), ("shard/wire.rule", 234), ("shard/wire.wipe", 237)]
def ml203 : List (String × Nat) := [("shard/wire.order", 163), ("shard/wire.rule", 240), ("shard/wire.wipe", 243)]
def ml204 : List (String × Nat) := [("shard/wire.order", 163), ("shard/wire.rule", 246), ("shard/wire.wipe", 249)]
def ml205 : List (String × Nat) := [("shard/wire.order", 163), ("shard/wire.rule", 164), ("shard/wire.wipe", 254)]
def ml206 : List (String × Nat) := [("shard/wire.order", 163), ("shard/wire.rule", 164), ("shard/wire.wipe", 259)]
def ml207 : List (String × Nat) := [("shard/wire.order", 260), ("shard/wire.rule", 263), ("shard/wire.wipe", 266)]
def ml208 : List (String × Nat) := [("shard/wire.order", 268), ("shard/wire.rule", 271), ("shard/wire.wipe", 274)]
def ml245 : List (String × Nat) := [("shard/wire.order", 163), ("shard/wire.rule", 164), ("shard/wire.wipe", 281)]
def methL : List (Nat × List (String × Nat)) := [(189, ml189), (191, ml191), (192, ml192), (193, ml193), (194, ml194), (195, ml195), (196, ml196), (197, ml197), (198, ml198), (199, ml199), (200, ml200), (201, ml201), (202, ml202), (203, ml203), (204, ml204), (205, ml205), (206, ml206), (207, ml207), (208, ml208), (245, ml245)]
def lookM : List (String × Nat) → String → Option Nat
  | [], _ => none
  | p :: r, n => cond (p.1 == n) (some p.2) (lookM r n)
theorem lookM_in : ∀ (l : List (String × Nat)) (n : String) (f : Nat), lookM l n = some f → (n, f) ∈ l
  | [], _, _, h => by cases h
  | p :: r, n, f, h => by
    simp only [lookM] at h
    cases hb : p.1 == n with
    | true => rw [hb] at h; cases h; rw [← eq_of_beq hb]; exact List.mem_cons_self ..
    | false => rw [hb] at h; exact List.mem_cons_of_mem _ (lookM_in r n f h)
def meth (t : TypeId) (n : String) : Option FuncId := match seek methL t with | some l => lookM l n | none => none
def Meth (t : TypeId) (n : String) (f : FuncId) : Prop := ∀ args w, (callMethod (.iface t (.agg #[])) n args).run Tryz.prog w = .ok (.enter f (#[.agg #[]] ++ args)) w
theorem m189_0 : Meth 189 "shard/wire.order" 163 := by intro args w; kernel_rfl
theorem m189_1 : Meth 189 "shard/wire.rule" 164 := by intro args w; kernel_rfl
theorem m189 : ∀ p ∈ ml189, Meth 189 p.1 p.2 := List.forall_mem_cons.2 ⟨m189_0, List.forall_mem_cons.2 ⟨m189_1, fun _ h => nomatch h⟩⟩
theorem m191_0 : Meth 191 "shard/wire.order" 163 := by intro args w; kernel_rfl
theorem m191_1 : Meth 191 "shard/wire.rule" 167 := by intro args w; kernel_rfl
theorem m191_2 : Meth 191 "shard/wire.wipe" 170 := by intro args w; kernel_rfl
theorem m191 : ∀ p ∈ ml191, Meth 191 p.1 p.2 := List.forall_mem_cons.2 ⟨m191_0, List.forall_mem_cons.2 ⟨m191_1, List.forall_mem_cons.2 ⟨m191_2, fun _ h => nomatch h⟩⟩⟩
theorem m192_0 : Meth 192 "shard/wire.order" 163 := by intro args w; kernel_rfl
theorem m192_1 : Meth 192 "shard/wire.rule" 164 := by intro args w; kernel_rfl
theorem m192_2 : Meth 192 "shard/wire.wipe" 175 := by intro args w; kernel_rfl
theorem m192 : ∀ p ∈ ml192, Meth 192 p.1 p.2 := List.forall_mem_cons.2 ⟨m192_0, List.forall_mem_cons.2 ⟨m192_1, List.forall_mem_cons.2 ⟨m192_2, fun _ h => nomatch h⟩⟩⟩
theorem m193_0 : Meth 193 "shard/wire.order" 163 := by intro args w; kernel_rfl
theorem m193_1 : Meth 193 "shard/wire.rule" 178 := by intro args w; kernel_rfl
theorem m193_2 : Meth 193 "shard/wire.wipe" 181 := by intro args w; kernel_rfl
theorem m193 : ∀ p ∈ ml193, Meth 193 p.1 p.2 := List.forall_mem_cons.2 ⟨m193_0, List.forall_mem_cons.2 ⟨m193_1, List.forall_mem_cons.2 ⟨m193_2, fun _ h => nomatch h⟩⟩⟩
theorem m194_0 : Meth 194 "shard/wire.order" 163 := by intro args w; kernel_rfl
theorem m194_1 : Meth 194 "shard/wire.rule" 184 := by intro args w; kernel_rfl
theorem m194_2 : Meth 194 "shard/wire.wipe" 187 := by intro args w; kernel_rfl
theorem m194 : ∀ p ∈ ml194, Meth 194 p.1 p.2 := List.forall_mem_cons.2 ⟨m194_0, List.forall_mem_cons.2 ⟨m194_1, List.forall_mem_cons.2 ⟨m194_2, fun _ h => nomatch h⟩⟩⟩
theorem m195_0 : Meth 195 "shard/wire.order" 163 := by intro args w; kernel_rfl
theorem m195_1 : Meth 195 "shard/wire.rule" 190 := by intro args w; kernel_rfl
theorem m195_2 : Meth 195 "shard/wire.wipe" 193 := by intro args w; kernel_rfl
theorem m195 : ∀ p ∈ ml195, Meth 195 p.1 p.2 := List.forall_mem_cons.2 ⟨m195_0, List.forall_mem_cons.2 ⟨m195_1, List.forall_mem_cons.2 ⟨m195_2, fun _ h => nomatch h⟩⟩⟩
theorem m196_0 : Meth 196 "shard/wire.order" 163 := by intro args w; kernel_rfl
theorem m196_1 : Meth 196 "shard/wire.rule" 196 := by intro args w; kernel_rfl
theorem m196_2 : Meth 196 "shard/wire.wipe" 199 := by intro args w; kernel_rfl
theorem m196 : ∀ p ∈ ml196, Meth 196 p.1 p.2 := List.forall_mem_cons.2 ⟨m196_0, List.forall_mem_cons.2 ⟨m196_1, List.forall_mem_cons.2 ⟨m196_2, fun _ h => nomatch h⟩⟩⟩
theorem m197_0 : Meth 197 "shard/wire.order" 163 := by intro args w; kernel_rfl
theorem m197_1 : Meth 197 "shard/wire.rule" 202 := by intro args w; kernel_rfl
theorem m197_2 : Meth 197 "shard/wire.wipe" 205 := by intro args w; kernel_rfl
theorem m197 : ∀ p ∈ ml197, Meth 197 p.1 p.2 := List.forall_mem_cons.2 ⟨m197_0, List.forall_mem_cons.2 ⟨m197_1, List.forall_mem_cons.2 ⟨m197_2, fun _ h => nomatch h⟩⟩⟩
theorem m198_0 : Meth 198 "shard/wire.order" 163 := by intro args w; kernel_rfl
theorem m198_1 : Meth 198 "shard/wire.rule" 208 := by intro args w; kernel_rfl
theorem m198_2 : Meth 198 "shard/wire.wipe" 211 := by intro args w; kernel_rfl
theorem m198 : ∀ p ∈ ml198, Meth 198 p.1 p.2 := List.forall_mem_cons.2 ⟨m198_0, List.forall_mem_cons.2 ⟨m198_1, List.forall_mem_cons.2 ⟨m198_2, fun _ h => nomatch h⟩⟩⟩
theorem m199_0 : Meth 199 "shard/wire.order" 212 := by intro args w; kernel_rfl
theorem m199_1 : Meth 199 "shard/wire.parts" 219 := by intro args w; kernel_rfl
theorem m199_2 : Meth 199 "shard/wire.rule" 215 := by intro args w; kernel_rfl
theorem m199_3 : Meth 199 "shard/wire.wipe" 218 := by intro args w; kernel_rfl
theorem m199 : ∀ p ∈ ml199, Meth 199 p.1 p.2 := List.forall_mem_cons.2 ⟨m199_0, List.forall_mem_cons.2 ⟨m199_1, List.forall_mem_cons.2 ⟨m199_2, List.forall_mem_cons.2 ⟨m199_3, fun _ h => nomatch h⟩⟩⟩⟩
theorem m200_0 : Meth 200 "shard/wire.order" 163 := by intro args w; kernel_rfl
theorem m200_1 : Meth 200 "shard/wire.rule" 222 := by intro args w; kernel_rfl
theorem m200_2 : Meth 200 "shard/wire.wipe" 225 := by intro args w; kernel_rfl
theorem m200 : ∀ p ∈ ml200, Meth 200 p.1 p.2 := List.forall_mem_cons.2 ⟨m200_0, List.forall_mem_cons.2 ⟨m200_1, List.forall_mem_cons.2 ⟨m200_2, fun _ h => nomatch h⟩⟩⟩
theorem m201_0 : Meth 201 "shard/wire.order" 163 := by intro args w; kernel_rfl
theorem m201_1 : Meth 201 "shard/wire.rule" 228 := by intro args w; kernel_rfl
theorem m201_2 : Meth 201 "shard/wire.wipe" 231 := by intro args w; kernel_rfl
theorem m201 : ∀ p ∈ ml201, Meth 201 p.1 p.2 := List.forall_mem_cons.2 ⟨m201_0, List.forall_mem_cons.2 ⟨m201_1, List.forall_mem_cons.2 ⟨m201_2, fun _ h => nomatch h⟩⟩⟩
theorem m202_0 : Meth 202 "shard/wire.order" 163 := by intro args w; kernel_rfl
theorem m202_1 : Meth 202 "shard/wire.rule" 234 := by intro args w; kernel_rfl
theorem m202_2 : Meth 202 "shard/wire.wipe" 237 := by intro args w; kernel_rfl
theorem m202 : ∀ p ∈ ml202, Meth 202 p.1 p.2 := List.forall_mem_cons.2 ⟨m202_0, List.forall_mem_cons.2 ⟨m202_1, List.forall_mem_cons.2 ⟨m202_2, fun _ h => nomatch h⟩⟩⟩
theorem m203_0 : Meth 203 "shard/wire.order" 163 := by intro args w; kernel_rfl
theorem m203_1 : Meth 203 "shard/wire.rule" 240 := by intro args w; kernel_rfl
theorem m203_2 : Meth 203 "shard/wire.wipe" 243 := by intro args w; kernel_rfl
theorem m203 : ∀ p ∈ ml203, Meth 203 p.1 p.2 := List.forall_mem_cons.2 ⟨m203_0, List.forall_mem_cons.2 ⟨m203_1, List.forall_mem_cons.2 ⟨m203_2, fun _ h => nomatch h⟩⟩⟩
theorem m204_0 : Meth 204 "shard/wire.order" 163 := by intro args w; kernel_rfl
theorem m204_1 : Meth 204 "shard/wire.rule" 246 := by intro args w; kernel_rfl
theorem m204_2 : Meth 204 "shard/wire.wipe" 249 := by intro args w; kernel_rfl
theorem m204 : ∀ p ∈ ml204, Meth 204 p.1 p.2 := List.forall_mem_cons.2 ⟨m204_0, List.forall_mem_cons.2 ⟨m204_1, List.forall_mem_cons.2 ⟨m204_2, fun _ h => nomatch h⟩⟩⟩
theorem m205_0 : Meth 205 "shard/wire.order" 163 := by intro args w; kernel_rfl
theorem m205_1 : Meth 205 "shard/wire.rule" 164 := by intro args w; kernel_rfl
theorem m205_2 : Meth 205 "shard/wire.wipe" 254 := by intro args w; kernel_rfl
theorem m205 : ∀ p ∈ ml205, Meth 205 p.1 p.2 := List.forall_mem_cons.2 ⟨m205_0, List.forall_mem_cons.2 ⟨m205_1, List.forall_mem_cons.2 ⟨m205_2, fun _ h => nomatch h⟩⟩⟩
theorem m206_0 : Meth 206 "shard/wire.order" 163 := by intro args w; kernel_rfl
theorem m206_1 : Meth 206 "shard/wire.rule" 164 := by intro args w; kernel_rfl
theorem m206_2 : Meth 206 "shard/wire.wipe" 259 := by intro args w; kernel_rfl
theorem m206 : ∀ p ∈ ml206, Meth 206 p.1 p.2 := List.forall_mem_cons.2 ⟨m206_0, List.forall_mem_cons.2 ⟨m206_1, List.forall_mem_cons.2 ⟨m206_2, fun _ h => nomatch h⟩⟩⟩
theorem m207_0 : Meth 207 "shard/wire.order" 260 := by intro args w; kernel_rfl
theorem m207_1 : Meth 207 "shard/wire.rule" 263 := by intro args w; kernel_rfl
theorem m207_2 : Meth 207 "shard/wire.wipe" 266 := by intro args w; kernel_rfl
theorem m207 : ∀ p ∈ ml207, Meth 207 p.1 p.2 := List.forall_mem_cons.2 ⟨m207_0, List.forall_mem_cons.2 ⟨m207_1, List.forall_mem_cons.2 ⟨m207_2, fun _ h => nomatch h⟩⟩⟩
theorem m208_0 : Meth 208 "shard/wire.order" 268 := by intro args w; kernel_rfl
theorem m208_1 : Meth 208 "shard/wire.rule" 271 := by intro args w; kernel_rfl
theorem m208_2 : Meth 208 "shard/wire.wipe" 274 := by intro args w; kernel_rfl
theorem m208 : ∀ p ∈ ml208, Meth 208 p.1 p.2 := List.forall_mem_cons.2 ⟨m208_0, List.forall_mem_cons.2 ⟨m208_1, List.forall_mem_cons.2 ⟨m208_2, fun _ h => nomatch h⟩⟩⟩
theorem m245_0 : Meth 245 "shard/wire.order" 163 := by intro args w; kernel_rfl
theorem m245_1 : Meth 245 "shard/wire.rule" 164 := by intro args w; kernel_rfl
theorem m245_2 : Meth 245 "shard/wire.wipe" 281 := by intro args w; kernel_rfl
theorem m245 : ∀ p ∈ ml245, Meth 245 p.1 p.2 := List.forall_mem_cons.2 ⟨m245_0, List.forall_mem_cons.2 ⟨m245_1, List.forall_mem_cons.2 ⟨m245_2, fun _ h => nomatch h⟩⟩⟩
theorem methAll : ∀ q ∈ methL, ∀ p ∈ q.2, Meth q.1 p.1 p.2 := List.forall_mem_cons.2 ⟨m189, List.forall_mem_cons.2 ⟨m191, List.forall_mem_cons.2 ⟨m192, List.forall_mem_cons.2 ⟨m193, List.forall_mem_cons.2 ⟨m194, List.forall_mem_cons.2 ⟨m195, List.forall_mem_cons.2 ⟨m196, List.forall_mem_cons.2 ⟨m197, List.forall_mem_cons.2 ⟨m198, List.forall_mem_cons.2 ⟨m199, List.forall_mem_cons.2 ⟨m200, List.forall_mem_cons.2 ⟨m201, List.forall_mem_cons.2 ⟨m202, List.forall_mem_cons.2 ⟨m203, List.forall_mem_cons.2 ⟨m204, List.forall_mem_cons.2 ⟨m205, List.forall_mem_cons.2 ⟨m206, List.forall_mem_cons.2 ⟨m207, List.forall_mem_cons.2 ⟨m208, List.forall_mem_cons.2 ⟨m245, fun _ h => nomatch h⟩⟩⟩⟩⟩⟩⟩⟩⟩⟩⟩⟩⟩⟩⟩⟩⟩⟩⟩⟩
theorem methOK : ∀ t n f, meth t n = some f → Meth t n f := by
  intro t n f h
  unfold meth at h
  split at h
  · rename_i l hl
    have := methAll (t, l) (seek_in _ _ _ hl) (n, f) (lookM_in _ _ _ h)
    exact this
  · cases h
/-- The program's table, with no loops and no contracts. -/
def C0 : Ctx := { ti := ti, meth := meth, can := can, pur := fun _ => none, loops := fun _ => none, gh := fun _ => [] }
theorem tabOK (C : Ctx) (h1 : C.ti = ti) (h2 : C.meth = meth) (h3 : C.can = can) : TabOK C Tryz.prog := tab_of (by rw [h1]; exact tiOK) (by rw [h2]; exact methOK) (by rw [h3]; exact canOK) (by kernel_rfl)
end Go.Proofs.YtmemeaaccgmeaaaGreat.Dx.TYtmemeaaccgmeaaaGreat
