/- The types' rows of the table, and the functions that may be called. No condition. -/
import Derived.Test.YtffnjojdjbdfcaaProg
import Derived.Test.YtffnjojdjbdfcaaX4
import Derived.Deep.QuietTactic
namespace Go.Proofs.Ytffnjojdjbdfcaa
open Go.RowKit

theorem Try.ty1 : Ty Try.prog 1 (.func #[] #[] false) 1 8 (.nilFunc) := ⟨Try.underlying1, by kernel_rfl⟩
theorem Try.ty2 : Ty Try.prog 2 (.int .i64) 1 8 (.int .i64 0) := ⟨Try.underlying2, by kernel_rfl⟩
theorem Try.ty3 : Ty Try.prog 3 (.int .i64) 1 8 (.int .i64 0) := ⟨Try.underlying3, by kernel_rfl⟩
theorem Try.ty4 : Ty Try.prog 4 (.bool) 1 1 (.bool false) := ⟨Try.underlying4, by kernel_rfl⟩
theorem Try.ty22 : Ty Try.prog 22 (.slice 36) 1 24 (.slice none 0 0) := ⟨Try.underlying22, by kernel_rfl⟩
theorem Try.ty23 : Ty Try.prog 23 (.slice 3) 1 24 (.slice none 0 0) := ⟨Try.underlying23, by kernel_rfl⟩
theorem Try.ty26 : Ty Try.prog 26 (.int .i64) 1 8 (.int .i64 0) := ⟨Try.underlying26, by kernel_rfl⟩
theorem Try.ty36 : Ty Try.prog 36 (.struct #[{ name := "Kind", type := 3, offset := 0, embedded := false, tag := "", pkgPath := "", byteOffset := 0 }, { name := "Who", type := 3, offset := 1, embedded := false, tag := "", pkgPath := "", byteOffset := 8 }, { name := "Of", type := 3, offset := 2, embedded := false, tag := "", pkgPath := "", byteOffset := 16 }]) 3 24 (.agg #[.int .i64 0, .int .i64 0, .int .i64 0]) := ⟨Try.underlying36, by kernel_rfl⟩
theorem Try.ty37 : Ty Try.prog 37 (.slice 23) 1 24 (.slice none 0 0) := ⟨Try.underlying37, by kernel_rfl⟩
theorem Try.ty44 : Ty Try.prog 44 (.pointer 54) 1 8 (.pointer none) := ⟨Try.underlying44, by kernel_rfl⟩
theorem Try.ty49 : Ty Try.prog 49 (.func #[44, 23, 3] #[] false) 1 8 (.nilFunc) := ⟨Try.underlying49, by kernel_rfl⟩
theorem Try.ty50 : Ty Try.prog 50 (.slice 4) 1 24 (.slice none 0 0) := ⟨Try.underlying50, by kernel_rfl⟩
theorem Try.ty54 : Ty Try.prog 54 (.struct #[{ name := "l", type := 22, offset := 0, embedded := false, tag := "", pkgPath := "folkmoot/cuts", byteOffset := 0 }, { name := "of", type := 37, offset := 1, embedded := false, tag := "", pkgPath := "folkmoot/cuts", byteOffset := 24 }]) 2 48 (.agg #[.slice none 0 0, .slice none 0 0]) := ⟨Try.underlying54, by kernel_rfl⟩
theorem Try.ty58 : Ty Try.prog 58 (.func #[63] #[] false) 1 8 (.nilFunc) := ⟨Try.underlying58, by kernel_rfl⟩
theorem Try.ty59 : Ty Try.prog 59 (.func #[63] #[] false) 1 8 (.nilFunc) := ⟨Try.underlying59, by kernel_rfl⟩
theorem Try.ty63 : Ty Try.prog 63 (.func #[3, 23] #[4] false) 1 8 (.nilFunc) := ⟨Try.underlying63, by kernel_rfl⟩
theorem Try.ty64 : Ty Try.prog 64 (.map 3 3) 1 8 (.map none) := ⟨Try.underlying64, by kernel_rfl⟩
theorem Try.ty65 : Ty Try.prog 65 (.int .u64) 1 8 (.int .u64 0) := ⟨Try.underlying65, by kernel_rfl⟩
theorem Try.mixed : Try.prog.follows .mixedOrders = true := by kernel_rfl
theorem Try.fn3 : Fnc Try.prog 3 := fun args w => by go_simp
theorem Try.fn4 : Fnc Try.prog 4 := fun args w => by go_simp
theorem Try.fn5 : Fnc Try.prog 5 := fun args w => by go_simp
theorem Try.fn6 : Fnc Try.prog 6 := fun args w => by go_simp
theorem Try.fn7 : Fnc Try.prog 7 := fun args w => by go_simp
theorem Try.fn8 : Fnc Try.prog 8 := fun args w => by go_simp
theorem Try.fn9 : Fnc Try.prog 9 := fun args w => by go_simp
theorem Try.fn10 : Fnc Try.prog 10 := fun args w => by go_simp
theorem Try.fn11 : Fnc Try.prog 11 := fun args w => by go_simp
theorem Try.fn12 : Fnc Try.prog 12 := fun args w => by go_simp
theorem Try.fn13 : Fnc Try.prog 13 := fun args w => by go_simp
theorem Try.fn14 : Fnc Try.prog 14 := fun args w => by go_simp
theorem Try.fn15 : Fnc Try.prog 15 := fun args w => by go_simp
theorem Try.fn16 : Fnc Try.prog 16 := fun args w => by go_simp
theorem Try.fn17 : Fnc Try.prog 17 := fun args w => by go_simp
theorem Try.fn18 : Fnc Try.prog 18 := fun args w => by go_simp
theorem Try.fn19 : Fnc Try.prog 19 := fun args w => by go_simp
theorem Try.fn20 : Fnc Try.prog 20 := fun args w => by go_simp
theorem Try.fn21 : Fnc Try.prog 21 := fun args w => by go_simp
theorem Try.fn22 : Fnc Try.prog 22 := fun args w => by go_simp
theorem Try.fn23 : Fnc Try.prog 23 := fun args w => by go_simp
theorem Try.fn24 : Fnc Try.prog 24 := fun args w => by go_simp
theorem Try.fn25 : Fnc Try.prog 25 := fun args w => by go_simp
theorem Try.fn26 : Fnc Try.prog 26 := fun args w => by go_simp
theorem Try.fn27 : Fnc Try.prog 27 := fun args w => by go_simp
theorem Try.fn28 : Fnc Try.prog 28 := fun args w => by go_simp
theorem Try.fn29 : Fnc Try.prog 29 := fun args w => by go_simp
theorem Try.fn30 : Fnc Try.prog 30 := fun args w => by go_simp
theorem Try.fn31 : Fnc Try.prog 31 := fun args w => by go_simp
theorem Try.fn32 : Fnc Try.prog 32 := fun args w => by go_simp
theorem Try.fn33 : Fnc Try.prog 33 := fun args w => by go_simp
theorem Try.fn34 : Fnc Try.prog 34 := fun args w => by go_simp
theorem Try.fn35 : Fnc Try.prog 35 := fun args w => by go_simp
theorem Try.fn36 : Fnc Try.prog 36 := fun args w => by go_simp
theorem Try.fn37 : Fnc Try.prog 37 := fun args w => by go_simp
end Go.Proofs.Ytffnjojdjbdfcaa
