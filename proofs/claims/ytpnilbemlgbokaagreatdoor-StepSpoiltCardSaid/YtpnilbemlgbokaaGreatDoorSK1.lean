/- A part of the proof of a law of the step table. -/
import Derived.Test.YtpnilbemlgbokaaGreatDoorS3
import Derived.Test.YtpnilbemlgbokaaGreatDoorS6
set_option linter.all false
namespace Go.V
theorem k25 : f25 (((([((0 : Int), ((0 : Int), ())), ((10 : Int), ((10 : Int), ())), ((40 : Int), ((40 : Int), ())), ((90 : Int), ((91 : Int), ())), ((160 : Int), ((160 : Int), ())), ((250 : Int), ((250 : Int), ())), ((360 : Int), ((360 : Int), ()))] : List (Int × (Int × Unit))), ((3 : Int), ((10 : Int), ())))), (([(0 : Int), (2 : Int), (4 : Int), (6 : Int)] : List Int), (([(0 : Int), (10 : Int), (40 : Int), (90 : Int), (160 : Int), (250 : Int), (360 : Int)] : List Int), ()))) = .ret (([(0 : Int), (20 : Int), (40 : Int), (100 : Int), (160 : Int), (260 : Int), (360 : Int)] : List Int), ((0 : Int), ())) := by kernel_rfl
theorem k26 : f26 (((([((0 : Int), ((0 : Int), ())), ((10 : Int), ((10 : Int), ())), ((40 : Int), ((40 : Int), ())), ((90 : Int), ((91 : Int), ())), ((160 : Int), ((160 : Int), ())), ((250 : Int), ((250 : Int), ())), ((360 : Int), ((360 : Int), ()))] : List (Int × (Int × Unit))), ((3 : Int), ((10 : Int), ())))), (([(0 : Int), (2 : Int), (4 : Int), (6 : Int)] : List Int), (([(0 : Int), (10 : Int), (40 : Int), (90 : Int), (160 : Int), (250 : Int), (360 : Int)] : List Int), ()))) = .ret (true, ((0 : Int), ())) := by kernel_rfl
theorem k28 : f28 ((10 : Int), ((4 : Int), ((3 : Int), ()))) = .ret (([(0 : Int), (3 : Int), (5 : Int), (8 : Int), (10 : Int)] : List Int), ((0 : Int), ())) := by kernel_rfl
theorem k36 : f36 (tB, (([(0 : Int), (2 : Int), (4 : Int), (6 : Int)] : List Int), ())) = .ret ((2 : Int), ((0 : Int), ())) := by kernel_rfl
theorem k37 : f37 (tB, (([(0 : Int), (2 : Int), (4 : Int), (6 : Int)] : List Int), ())) = .ret (([(3 : Int), (5 : Int)] : List Int), ((0 : Int), ())) := by kernel_rfl
theorem k42 : f42 (tB, (([(0 : Int), (2 : Int), (4 : Int), (6 : Int)] : List Int), ())) = .ret (([(0 : Int), (10 : Int), (40 : Int), (90 : Int), (161 : Int), (250 : Int), (360 : Int)] : List Int), ((0 : Int), ())) := by kernel_rfl
theorem k43 : f43 (tB, (([(0 : Int), (2 : Int), (4 : Int), (6 : Int)] : List Int), ())) = .ret ((11 : Int), ((0 : Int), ())) := by kernel_rfl
end Go.V
