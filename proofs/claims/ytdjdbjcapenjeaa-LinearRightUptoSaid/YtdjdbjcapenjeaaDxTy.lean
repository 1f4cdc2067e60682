/- Names of types. -/
import Derived.Test.YtdjdbjcapenjeaaDx3
namespace Go.Proofs.Ytdjdbjcapenjeaa
open Go Go.Proofs.Ytdjdbjcapenjeaa.Dx
abbrev T27 : Ty := (.pair (.int .u8) (.pair (.int .u64) (.pair (.int .u64) (.pair (.sl (.int .u8)) (.pair (.sl (.int .u8)) (.pair .bool (.pair (.int .u8) .unit)))))))
abbrev D27 : Type := (Int × (Int × (Int × ((List Int) × ((List Int) × (Bool × (Int × Unit)))))))
abbrev d27 : D27 := ((0 : Int), (0 : Int), (0 : Int), [], [], false, (0 : Int), ())
abbrev T30 : Ty := (.pair (.int .u8) (.pair (.int .u64) (.pair (.pair (.int .u8) (.pair (.int .u64) (.pair (.int .u64) (.pair (.sl (.int .u8)) (.pair (.sl (.int .u8)) (.pair .bool (.pair (.int .u8) .unit))))))) (.pair (.int .u8) (.pair (.sl (.int .u8)) (.pair (.int .i64) (.pair (.int .i64) .unit)))))))
abbrev D30 : Type := (Int × (Int × ((Int × (Int × (Int × ((List Int) × ((List Int) × (Bool × (Int × Unit))))))) × (Int × ((List Int) × (Int × (Int × Unit)))))))
abbrev d30 : D30 := ((0 : Int), (0 : Int), ((0 : Int), (0 : Int), (0 : Int), [], [], false, (0 : Int), ()), (0 : Int), [], (0 : Int), (0 : Int), ())
abbrev T51 : Ty := (.pair .bool (.pair (.int .u64) (.pair (.sl (.int .i64)) .unit)))
abbrev D51 : Type := (Bool × (Int × ((List Int) × Unit)))
abbrev d51 : D51 := (false, (0 : Int), [], ())
abbrev T60 : Ty := (.pair .bool (.pair (.sl (.int .u8)) .unit))
abbrev D60 : Type := (Bool × ((List Int) × Unit))
abbrev d60 : D60 := (false, [], ())
abbrev T72 : Ty := (.pair (.sl (.int .i64)) (.pair (.int .i64) .unit))
abbrev D72 : Type := ((List Int) × (Int × Unit))
abbrev d72 : D72 := ([], (0 : Int), ())
abbrev T98 : Ty := (.pair .nl (.pair (.int .u32) (.pair .nl (.pair .nl (.pair .nl (.pair .nl .unit))))))
abbrev D98 : Type := (Unit × (Int × (Unit × (Unit × (Unit × (Unit × Unit))))))
abbrev d98 : D98 := ((), (0 : Int), (), (), (), (), ())
abbrev T103 : Ty := (.pair (.sl (.pair (.int .u8) (.pair (.int .u64) (.pair (.pair (.int .u8) (.pair (.int .u64) (.pair (.int .u64) (.pair (.sl (.int .u8)) (.pair (.sl (.int .u8)) (.pair .bool (.pair (.int .u8) .unit))))))) (.pair (.int .u8) (.pair (.sl (.int .u8)) (.pair (.int .i64) (.pair (.int .i64) .unit)))))))) (.pair (.sl (.int .u8)) .unit))
abbrev D103 : Type := ((List (Int × (Int × ((Int × (Int × (Int × ((List Int) × ((List Int) × (Bool × (Int × Unit))))))) × (Int × ((List Int) × (Int × (Int × Unit)))))))) × ((List Int) × Unit))
abbrev d103 : D103 := ([], [], ())
end Go.Proofs.Ytdjdbjcapenjeaa
