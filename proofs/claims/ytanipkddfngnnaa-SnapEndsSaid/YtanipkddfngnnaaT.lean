/- The types' rows of the table, and the functions that may be called. No condition. -/
import Derived.Test.YtanipkddfngnnaaProg
import Derived.Test.YtanipkddfngnnaaX4
import Derived.Deep.QuietTactic
namespace Go.Proofs.Ytanipkddfngnnaa
open Go.RowKit

theorem Try.ty1 : Ty Try.prog 1 (.func #[] #[] false) 1 8 (.nilFunc) := ⟨Try.underlying1, by kernel_rfl⟩
theorem Try.ty2 : Ty Try.prog 2 (.int .i64) 1 8 (.int .i64 0) := ⟨Try.underlying2, by kernel_rfl⟩
theorem Try.ty3 : Ty Try.prog 3 (.int .i64) 1 8 (.int .i64 0) := ⟨Try.underlying3, by kernel_rfl⟩
theorem Try.ty4 : Ty Try.prog 4 (.bool) 1 1 (.bool false) := ⟨Try.underlying4, by kernel_rfl⟩
theorem Try.ty5 : Ty Try.prog 5 (.int .u8) 1 1 (.int .u8 0) := ⟨Try.underlying5, by kernel_rfl⟩
theorem Try.ty22 : Ty Try.prog 22 (.slice 3) 1 24 (.slice none 0 0) := ⟨Try.underlying22, by kernel_rfl⟩
theorem Try.ty23 : Ty Try.prog 23 (.slice 33) 1 24 (.slice none 0 0) := ⟨Try.underlying23, by kernel_rfl⟩
theorem Try.ty24 : Ty Try.prog 24 (.slice 28) 1 24 (.slice none 0 0) := ⟨Try.underlying24, by kernel_rfl⟩
theorem Try.ty25 : Ty Try.prog 25 (.slice 22) 1 24 (.slice none 0 0) := ⟨Try.underlying25, by kernel_rfl⟩
theorem Try.ty27 : Ty Try.prog 27 (.struct #[{ name := "Codes", type := 24, offset := 0, embedded := false, tag := "", pkgPath := "", byteOffset := 0 }, { name := "Money", type := 22, offset := 1, embedded := false, tag := "", pkgPath := "", byteOffset := 24 }, { name := "Own", type := 22, offset := 2, embedded := false, tag := "", pkgPath := "", byteOffset := 48 }, { name := "Between", type := 25, offset := 3, embedded := false, tag := "", pkgPath := "", byteOffset := 72 }, { name := "Done", type := 4, offset := 4, embedded := false, tag := "", pkgPath := "", byteOffset := 96 }]) 5 104 (.agg #[.slice none 0 0, .slice none 0 0, .slice none 0 0, .slice none 0 0, .bool false]) := ⟨Try.underlying27, by kernel_rfl⟩
theorem Try.ty28 : Ty Try.prog 28 (.int .i64) 1 8 (.int .i64 0) := ⟨Try.underlying28, by kernel_rfl⟩
theorem Try.ty33 : Ty Try.prog 33 (.struct #[{ name := "Kind", type := 3, offset := 0, embedded := false, tag := "", pkgPath := "", byteOffset := 0 }, { name := "Who", type := 3, offset := 1, embedded := false, tag := "", pkgPath := "", byteOffset := 8 }, { name := "Other", type := 3, offset := 2, embedded := false, tag := "", pkgPath := "", byteOffset := 16 }, { name := "N", type := 3, offset := 3, embedded := false, tag := "", pkgPath := "", byteOffset := 24 }]) 4 32 (.agg #[.int .i64 0, .int .i64 0, .int .i64 0, .int .i64 0]) := ⟨Try.underlying33, by kernel_rfl⟩
theorem Try.ty37 : Ty Try.prog 37 (.func #[3] #[4] false) 1 8 (.nilFunc) := ⟨Try.underlying37, by kernel_rfl⟩
theorem Try.ty38 : Ty Try.prog 38 (.pointer 44) 1 8 (.pointer none) := ⟨Try.underlying38, by kernel_rfl⟩
theorem Try.ty41 : Ty Try.prog 41 (.slice 46) 1 24 (.slice none 0 0) := ⟨Try.underlying41, by kernel_rfl⟩
theorem Try.ty42 : Ty Try.prog 42 (.map 47 48) 1 8 (.map none) := ⟨Try.underlying42, by kernel_rfl⟩
theorem Try.ty44 : Ty Try.prog 44 (.struct #[{ name := "procs", type := 41, offset := 0, embedded := false, tag := "", pkgPath := "folkmoot/snap", byteOffset := 0 }, { name := "ways", type := 42, offset := 1, embedded := false, tag := "", pkgPath := "folkmoot/snap", byteOffset := 24 }]) 2 32 (.agg #[.slice none 0 0, .map none]) := ⟨Try.underlying44, by kernel_rfl⟩
theorem Try.ty46 : Ty Try.prog 46 (.struct #[{ name := "money", type := 3, offset := 0, embedded := false, tag := "", pkgPath := "folkmoot/snap", byteOffset := 0 }, { name := "own", type := 3, offset := 1, embedded := false, tag := "", pkgPath := "folkmoot/snap", byteOffset := 8 }]) 2 16 (.agg #[.int .i64 0, .int .i64 0]) := ⟨Try.underlying46, by kernel_rfl⟩
theorem Try.ty47 : Ty Try.prog 47 (.array 2 3) 2 16 (.agg #[.int .i64 0, .int .i64 0]) := ⟨Try.underlying47, by kernel_rfl⟩
theorem Try.ty48 : Ty Try.prog 48 (.pointer 50) 1 8 (.pointer none) := ⟨Try.underlying48, by kernel_rfl⟩
theorem Try.ty50 : Ty Try.prog 50 (.struct #[{ name := "queue", type := 22, offset := 0, embedded := false, tag := "", pkgPath := "folkmoot/snap", byteOffset := 0 }, { name := "noted", type := 22, offset := 1, embedded := false, tag := "", pkgPath := "folkmoot/snap", byteOffset := 24 }, { name := "closed", type := 4, offset := 2, embedded := false, tag := "", pkgPath := "folkmoot/snap", byteOffset := 48 }]) 3 56 (.agg #[.slice none 0 0, .slice none 0 0, .bool false]) := ⟨Try.underlying50, by kernel_rfl⟩
theorem Try.ty54 : Ty Try.prog 54 (.pointer 46) 1 8 (.pointer none) := ⟨Try.underlying54, by kernel_rfl⟩
theorem Try.mixed : Try.prog.follows .mixedOrders = true := by kernel_rfl
theorem Try.fn3 : Fnc Try.prog 3 := fun args w => by go_simp
theorem Try.fn4 : Fnc Try.prog 4 := fun args w => by go_simp
theorem Try.fn5 : Fnc Try.prog 5 := fun args w => by go_simp
theorem Try.fn6 : Fnc Try.prog 6 := fun args w => by go_simp
theorem Try.fn7 : Fnc Try.prog 7 := fun args w => by go_simp
theorem Try.fn8 : Fnc Try.prog 8 := fun args w => by go_simp
theorem Try.fn9 : Fnc Try.prog 9 := fun args w => by go_simp
theorem Try.fn10 : Fnc Try.prog 10 := fun args w => by go_simp
theorem Try.fn11 : Fnc Try.prog 11 := fun args w => by go_simp
theorem Try.fn12 : Fnc Try.prog 12 := fun args w => by go_simp
theorem Try.fn13 : Fnc Try.prog 13 := fun args w => by go_simp
theorem Try.fn14 : Fnc Try.prog 14 := fun args w => by go_simp
theorem Try.fn15 : Fnc Try.prog 15 := fun args w => by go_simp
theorem Try.fn16 : Fnc Try.prog 16 := fun args w => by go_simp
theorem Try.fn17 : Fnc Try.prog 17 := fun args w => by go_simp
end Go.Proofs.Ytanipkddfngnnaa
