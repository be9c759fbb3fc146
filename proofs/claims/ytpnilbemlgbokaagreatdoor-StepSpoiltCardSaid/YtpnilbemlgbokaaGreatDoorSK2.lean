/- A part of the proof of a law of the step table. -/
import Derived.Test.YtpnilbemlgbokaaGreatDoorS3
import Derived.Test.YtpnilbemlgbokaaGreatDoorS6
set_option linter.all false
namespace Go.V
theorem k48 : f48 (((([((0 : Int), ((0 : Int), ())), ((10 : Int), ((10 : Int), ())), ((40 : Int), ((40 : Int), ())), ((90 : Int), ((91 : Int), ())), ((160 : Int), ((160 : Int), ())), ((250 : Int), ((250 : Int), ())), ((360 : Int), ((360 : Int), ()))] : List (Int × (Int × Unit))), ((3 : Int), ((10 : Int), ())))), ((4 : Int), ())) = .ret (([(0 : Int), (4 : Int), (6 : Int)] : List Int), ((0 : Int), ())) := by kernel_rfl
theorem k49 : f49 (((([((0 : Int), ((0 : Int), ())), ((10 : Int), ((10 : Int), ())), ((40 : Int), ((40 : Int), ())), ((90 : Int), ((91 : Int), ())), ((160 : Int), ((160 : Int), ())), ((250 : Int), ((250 : Int), ())), ((360 : Int), ((360 : Int), ()))] : List (Int × (Int × Unit))), ((3 : Int), ((10 : Int), ())))), ()) = .ret ((2 : Int), ((0 : Int), ())) := by kernel_rfl
theorem k53 : f53 (((([((0 : Int), ((0 : Int), ())), ((10 : Int), ((10 : Int), ())), ((40 : Int), ((40 : Int), ())), ((90 : Int), ((91 : Int), ())), ((160 : Int), ((160 : Int), ())), ((250 : Int), ((250 : Int), ())), ((360 : Int), ((360 : Int), ()))] : List (Int × (Int × Unit))), ((3 : Int), ((10 : Int), ())))), ()) = .ret (([(0 : Int), (2 : Int), (4 : Int), (6 : Int)] : List Int), ((0 : Int), ())) := by kernel_rfl
theorem k55 : f55 (((([((0 : Int), ((0 : Int), ())), ((10 : Int), ((10 : Int), ())), ((40 : Int), ((40 : Int), ())), ((90 : Int), ((91 : Int), ())), ((160 : Int), ((160 : Int), ())), ((250 : Int), ((250 : Int), ())), ((360 : Int), ((360 : Int), ()))] : List (Int × (Int × Unit))), ((3 : Int), ((10 : Int), ())))), ()) = .ret ((1 : Int), ((0 : Int), ())) := by kernel_rfl
end Go.V
