/- The types' rows of the table, and the functions that may be called. No condition. -/
import Derived.Test.YtpjkpnfelpfhaaaProg
import Derived.Test.YtpjkpnfelpfhaaaW2
import Derived.Deep.QuietTactic
namespace Go.Proofs.Ytpjkpnfelpfhaaa
open Go.RowKit

theorem Try.ty1 : Ty Try.prog 1 (.func #[] #[] false) 1 8 (.nilFunc) := ⟨Try.underlying1, by kernel_rfl⟩
theorem Try.ty3 : Ty Try.prog 3 (.int .i64) 1 8 (.int .i64 0) := ⟨Try.underlying3, by kernel_rfl⟩
theorem Try.ty4 : Ty Try.prog 4 (.bool) 1 1 (.bool false) := ⟨Try.underlying4, by kernel_rfl⟩
theorem Try.ty5 : Ty Try.prog 5 (.int .u8) 1 1 (.int .u8 0) := ⟨Try.underlying5, by kernel_rfl⟩
theorem Try.ty22 : Ty Try.prog 22 (.slice 28) 1 24 (.slice none 0 0) := ⟨Try.underlying22, by kernel_rfl⟩
theorem Try.ty23 : Ty Try.prog 23 (.int .i64) 1 8 (.int .i64 0) := ⟨Try.underlying23, by kernel_rfl⟩
theorem Try.ty28 : Ty Try.prog 28 (.int .u32) 1 4 (.int .u32 0) := ⟨Try.underlying28, by kernel_rfl⟩
theorem Try.ty32 : Ty Try.prog 32 (.int .u64) 1 8 (.int .u64 0) := ⟨Try.underlying32, by kernel_rfl⟩
theorem Try.ty39 : Ty Try.prog 39 (.func #[46] #[] false) 1 8 (.nilFunc) := ⟨Try.underlying39, by kernel_rfl⟩
theorem Try.ty40 : Ty Try.prog 40 (.func #[46] #[] false) 1 8 (.nilFunc) := ⟨Try.underlying40, by kernel_rfl⟩
theorem Try.ty43 : Ty Try.prog 43 (.func #[28] #[4] false) 1 8 (.nilFunc) := ⟨Try.underlying43, by kernel_rfl⟩
theorem Try.ty46 : Ty Try.prog 46 (.func #[28, 28] #[4] false) 1 8 (.nilFunc) := ⟨Try.underlying46, by kernel_rfl⟩
theorem Try.ty51 : Ty Try.prog 51 (.int .i64) 1 8 (.int .i64 0) := ⟨Try.underlying51, by kernel_rfl⟩
theorem Try.ty59 : Ty Try.prog 59 (.int .u64) 1 8 (.int .u64 0) := ⟨Try.underlying59, by kernel_rfl⟩
theorem Try.ty60 : Ty Try.prog 60 (.int .u64) 1 8 (.int .u64 0) := ⟨Try.underlying60, by kernel_rfl⟩
theorem Try.ty64 : Ty Try.prog 64 (.pointer 3) 1 8 (.pointer none) := ⟨Try.underlying64, by kernel_rfl⟩
theorem Try.mixed : Try.prog.follows .mixedOrders = true := by kernel_rfl
theorem Try.fn3 : Fnc Try.prog 3 := fun args w => by go_simp
theorem Try.fn4 : Fnc Try.prog 4 := fun args w => by go_simp
theorem Try.fn5 : Fnc Try.prog 5 := fun args w => by go_simp
theorem Try.fn6 : Fnc Try.prog 6 := fun args w => by go_simp
theorem Try.fn7 : Fnc Try.prog 7 := fun args w => by go_simp
theorem Try.fn8 : Fnc Try.prog 8 := fun args w => by go_simp
theorem Try.fn9 : Fnc Try.prog 9 := fun args w => by go_simp
theorem Try.fn10 : Fnc Try.prog 10 := fun args w => by go_simp
theorem Try.fn11 : Fnc Try.prog 11 := fun args w => by go_simp
theorem Try.fn12 : Fnc Try.prog 12 := fun args w => by go_simp
theorem Try.fn13 : Fnc Try.prog 13 := fun args w => by go_simp
theorem Try.fn14 : Fnc Try.prog 14 := fun args w => by go_simp
theorem Try.fn15 : Fnc Try.prog 15 := fun args w => by go_simp
theorem Try.fn16 : Fnc Try.prog 16 := fun args w => by go_simp
theorem Try.fn17 : Fnc Try.prog 17 := fun args w => by go_simp
theorem Try.fn18 : Fnc Try.prog 18 := fun args w => by go_simp
theorem Try.fn19 : Fnc Try.prog 19 := fun args w => by go_simp
theorem Try.fn20 : Fnc Try.prog 20 := fun args w => by go_simp
theorem Try.fn21 : Fnc Try.prog 21 := fun args w => by go_simp
theorem Try.fn22 : Fnc Try.prog 22 := fun args w => by go_simp
theorem Try.fn23 : Fnc Try.prog 23 := fun args w => by go_simp
theorem Try.fn24 : Fnc Try.prog 24 := fun args w => by go_simp
theorem Try.fn25 : Fnc Try.prog 25 := fun args w => by go_simp
theorem Try.fn26 : Fnc Try.prog 26 := fun args w => by go_simp
theorem Try.fn27 : Fnc Try.prog 27 := fun args w => by go_simp
theorem Try.fn28 : Fnc Try.prog 28 := fun args w => by go_simp
theorem Try.fn29 : Fnc Try.prog 29 := fun args w => by go_simp
theorem Try.fn30 : Fnc Try.prog 30 := fun args w => by go_simp
theorem Try.fn31 : Fnc Try.prog 31 := fun args w => by go_simp
theorem Try.fn32 : Fnc Try.prog 32 := fun args w => by go_simp
theorem Try.fn33 : Fnc Try.prog 33 := fun args w => by go_simp
theorem Try.fn34 : Fnc Try.prog 34 := fun args w => by go_simp
theorem Try.fn35 : Fnc Try.prog 35 := fun args w => by go_simp
theorem Try.fn36 : Fnc Try.prog 36 := fun args w => by go_simp
theorem Try.fn37 : Fnc Try.prog 37 := fun args w => by go_simp
theorem Try.fn38 : Fnc Try.prog 38 := fun args w => by go_simp
theorem Try.fn39 : Fnc Try.prog 39 := fun args w => by go_simp
theorem Try.fn40 : Fnc Try.prog 40 := fun args w => by go_simp
theorem Try.fn41 : Fnc Try.prog 41 := fun args w => by go_simp
theorem Try.fn42 : Fnc Try.prog 42 := fun args w => by go_simp
theorem Try.fn43 : Fnc Try.prog 43 := fun args w => by go_simp
theorem Try.fn44 : Fnc Try.prog 44 := fun args w => by go_simp
theorem Try.fn45 : Fnc Try.prog 45 := fun args w => by go_simp
theorem Try.fn46 : Fnc Try.prog 46 := fun args w => by go_simp
theorem Try.fn47 : Fnc Try.prog 47 := fun args w => by go_simp
theorem Try.fn48 : Fnc Try.prog 48 := fun args w => by go_simp
theorem Try.fn49 : Fnc Try.prog 49 := fun args w => by go_simp
theorem Try.fn50 : Fnc Try.prog 50 := fun args w => by go_simp
theorem Try.fn51 : Fnc Try.prog 51 := fun args w => by go_simp
theorem Try.fn52 : Fnc Try.prog 52 := fun args w => by go_simp
theorem Try.fn53 : Fnc Try.prog 53 := fun args w => by go_simp
theorem Try.fn55 : Fnc Try.prog 55 := fun args w => by go_simp
theorem Try.fn56 : Fnc Try.prog 56 := fun args w => by go_simp
theorem Try.fn57 : Fnc Try.prog 57 := fun args w => by go_simp
theorem Try.fn58 : Fnc Try.prog 58 := fun args w => by go_simp
end Go.Proofs.Ytpjkpnfelpfhaaa
