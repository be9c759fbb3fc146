/- A part of the proof of a law of the step table. -/
import Derived.Test.YtpnilbemlgbokaaGreatDoorS3
import Derived.Test.YtpnilbemlgbokaaGreatDoorS6
set_option linter.all false
namespace Go.V
theorem k56 : f56 (((([((0 : Int), ((0 : Int), ())), ((10 : Int), ((10 : Int), ())), ((40 : Int), ((40 : Int), ())), ((90 : Int), ((91 : Int), ())), ((160 : Int), ((160 : Int), ())), ((250 : Int), ((250 : Int), ())), ((360 : Int), ((360 : Int), ()))] : List (Int × (Int × Unit))), ((3 : Int), ((10 : Int), ())))), ()) = .ret (([(0 : Int), (2 : Int), (4 : Int), (6 : Int)] : List Int), ((0 : Int), ())) := by kernel_rfl
theorem k59 : f59 (tB, (([(0 : Int), (2 : Int), (4 : Int), (6 : Int)] : List Int), ())) = .ret ((3 : Int), ((1 : Int), ((0 : Int), ()))) := by kernel_rfl
theorem k68 : f68 (([116, 97, 98, 108, 101, 32, 48, 32, 49, 10, 118, 97, 108, 117, 101, 32, 53, 32, 54, 10, 118, 97, 108, 117, 101, 32, 55, 32, 55, 10, 101, 110, 100, 32, 48, 53, 51, 10] : List UInt8), ()) = .ret ((([((5 : Int), ((6 : Int), ())), ((7 : Int), ((7 : Int), ()))] : List (Int × (Int × Unit))), ((1 : Int), ((0 : Int), ()))), ((0 : Int), ())) := by kernel_rfl
theorem k69 : f69 ((([((5 : Int), ((6 : Int), ())), ((7 : Int), ((7 : Int), ()))] : List (Int × (Int × Unit))), ((1 : Int), ((0 : Int), ()))), ()) = .ret ([116, 97, 98, 108, 101, 32, 48, 32, 49, 10, 118, 97, 108, 117, 101, 32, 53, 32, 54, 10, 118, 97, 108, 117, 101, 32, 55, 32, 55, 10, 101, 110, 100, 32, 48, 53, 51, 10] : List UInt8) := by kernel_rfl
end Go.V
