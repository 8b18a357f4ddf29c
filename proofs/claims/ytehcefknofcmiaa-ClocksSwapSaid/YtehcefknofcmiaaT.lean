/- The types' rows of the table, and the functions that may be called. No condition. -/
import Derived.Test.YtehcefknofcmiaaProg
import Derived.Test.YtehcefknofcmiaaX4
import Derived.Deep.QuietTactic
namespace Go.Proofs.Ytehcefknofcmiaa
open Go.RowKit

theorem Try.ty1 : Ty Try.prog 1 (.func #[] #[] false) 1 8 (.nilFunc) := ⟨Try.underlying1, by kernel_rfl⟩
theorem Try.ty2 : Ty Try.prog 2 (.int .i64) 1 8 (.int .i64 0) := ⟨Try.underlying2, by kernel_rfl⟩
theorem Try.ty3 : Ty Try.prog 3 (.int .i64) 1 8 (.int .i64 0) := ⟨Try.underlying3, by kernel_rfl⟩
theorem Try.ty4 : Ty Try.prog 4 (.bool) 1 1 (.bool false) := ⟨Try.underlying4, by kernel_rfl⟩
theorem Try.ty5 : Ty Try.prog 5 (.int .u8) 1 1 (.int .u8 0) := ⟨Try.underlying5, by kernel_rfl⟩
theorem Try.ty22 : Ty Try.prog 22 (.slice 30) 1 24 (.slice none 0 0) := ⟨Try.underlying22, by kernel_rfl⟩
theorem Try.ty24 : Ty Try.prog 24 (.int .i64) 1 8 (.int .i64 0) := ⟨Try.underlying24, by kernel_rfl⟩
theorem Try.ty26 : Ty Try.prog 26 (.slice 32) 1 24 (.slice none 0 0) := ⟨Try.underlying26, by kernel_rfl⟩
theorem Try.ty30 : Ty Try.prog 30 (.struct #[{ name := "Kind", type := 3, offset := 0, embedded := false, tag := "", pkgPath := "", byteOffset := 0 }, { name := "Who", type := 3, offset := 1, embedded := false, tag := "", pkgPath := "", byteOffset := 8 }, { name := "Of", type := 3, offset := 2, embedded := false, tag := "", pkgPath := "", byteOffset := 16 }]) 3 24 (.agg #[.int .i64 0, .int .i64 0, .int .i64 0]) := ⟨Try.underlying30, by kernel_rfl⟩
theorem Try.ty32 : Ty Try.prog 32 (.slice 3) 1 24 (.slice none 0 0) := ⟨Try.underlying32, by kernel_rfl⟩
theorem Try.ty44 : Ty Try.prog 44 (.func #[49] #[] false) 1 8 (.nilFunc) := ⟨Try.underlying44, by kernel_rfl⟩
theorem Try.ty45 : Ty Try.prog 45 (.func #[49] #[] false) 1 8 (.nilFunc) := ⟨Try.underlying45, by kernel_rfl⟩
theorem Try.ty47 : Ty Try.prog 47 (.func #[3] #[4] false) 1 8 (.nilFunc) := ⟨Try.underlying47, by kernel_rfl⟩
theorem Try.ty49 : Ty Try.prog 49 (.func #[3, 32] #[4] false) 1 8 (.nilFunc) := ⟨Try.underlying49, by kernel_rfl⟩
theorem Try.ty50 : Ty Try.prog 50 (.map 3 3) 1 8 (.map none) := ⟨Try.underlying50, by kernel_rfl⟩
theorem Try.mixed : Try.prog.follows .mixedOrders = true := by kernel_rfl
theorem Try.fn3 : Fnc Try.prog 3 := fun args w => by go_simp
theorem Try.fn4 : Fnc Try.prog 4 := fun args w => by go_simp
theorem Try.fn5 : Fnc Try.prog 5 := fun args w => by go_simp
theorem Try.fn6 : Fnc Try.prog 6 := fun args w => by go_simp
theorem Try.fn7 : Fnc Try.prog 7 := fun args w => by go_simp
theorem Try.fn8 : Fnc Try.prog 8 := fun args w => by go_simp
theorem Try.fn9 : Fnc Try.prog 9 := fun args w => by go_simp
theorem Try.fn10 : Fnc Try.prog 10 := fun args w => by go_simp
theorem Try.fn11 : Fnc Try.prog 11 := fun args w => by go_simp
theorem Try.fn12 : Fnc Try.prog 12 := fun args w => by go_simp
theorem Try.fn13 : Fnc Try.prog 13 := fun args w => by go_simp
theorem Try.fn14 : Fnc Try.prog 14 := fun args w => by go_simp
theorem Try.fn15 : Fnc Try.prog 15 := fun args w => by go_simp
theorem Try.fn16 : Fnc Try.prog 16 := fun args w => by go_simp
theorem Try.fn17 : Fnc Try.prog 17 := fun args w => by go_simp
theorem Try.fn18 : Fnc Try.prog 18 := fun args w => by go_simp
theorem Try.fn19 : Fnc Try.prog 19 := fun args w => by go_simp
theorem Try.fn20 : Fnc Try.prog 20 := fun args w => by go_simp
theorem Try.fn21 : Fnc Try.prog 21 := fun args w => by go_simp
theorem Try.fn22 : Fnc Try.prog 22 := fun args w => by go_simp
theorem Try.fn23 : Fnc Try.prog 23 := fun args w => by go_simp
theorem Try.fn24 : Fnc Try.prog 24 := fun args w => by go_simp
theorem Try.fn25 : Fnc Try.prog 25 := fun args w => by go_simp
end Go.Proofs.Ytehcefknofcmiaa
