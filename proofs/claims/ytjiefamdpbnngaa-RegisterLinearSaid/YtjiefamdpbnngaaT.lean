/- The types' rows of the table, and the functions that may be called. No condition. -/
import Derived.Test.YtjiefamdpbnngaaProg
import Derived.Test.YtjiefamdpbnngaaX4
import Derived.Deep.QuietTactic
namespace Go.Proofs.Ytjiefamdpbnngaa
open Go.RowKit

theorem Try.ty1 : Ty Try.prog 1 (.func #[] #[] false) 1 8 (.nilFunc) := ⟨Try.underlying1, by kernel_rfl⟩
theorem Try.ty2 : Ty Try.prog 2 (.int .i64) 1 8 (.int .i64 0) := ⟨Try.underlying2, by kernel_rfl⟩
theorem Try.ty3 : Ty Try.prog 3 (.int .i64) 1 8 (.int .i64 0) := ⟨Try.underlying3, by kernel_rfl⟩
theorem Try.ty4 : Ty Try.prog 4 (.bool) 1 1 (.bool false) := ⟨Try.underlying4, by kernel_rfl⟩
theorem Try.ty5 : Ty Try.prog 5 (.int .u8) 1 1 (.int .u8 0) := ⟨Try.underlying5, by kernel_rfl⟩
theorem Try.ty22 : Ty Try.prog 22 (.slice 24) 1 24 (.slice none 0 0) := ⟨Try.underlying22, by kernel_rfl⟩
theorem Try.ty24 : Ty Try.prog 24 (.struct #[{ name := "Kind", type := 3, offset := 0, embedded := false, tag := "", pkgPath := "", byteOffset := 0 }, { name := "Who", type := 3, offset := 1, embedded := false, tag := "", pkgPath := "", byteOffset := 8 }, { name := "At", type := 3, offset := 2, embedded := false, tag := "", pkgPath := "", byteOffset := 16 }, { name := "Of", type := 3, offset := 3, embedded := false, tag := "", pkgPath := "", byteOffset := 24 }, { name := "Write", type := 4, offset := 4, embedded := false, tag := "", pkgPath := "", byteOffset := 32 }, { name := "Val", type := 2, offset := 5, embedded := false, tag := "", pkgPath := "", byteOffset := 40 }]) 6 48 (.agg #[.int .i64 0, .int .i64 0, .int .i64 0, .int .i64 0, .bool false, .int .i64 0]) := ⟨Try.underlying24, by kernel_rfl⟩
theorem Try.ty25 : Ty Try.prog 25 (.slice 29) 1 24 (.slice none 0 0) := ⟨Try.underlying25, by kernel_rfl⟩
theorem Try.ty26 : Ty Try.prog 26 (.slice 33) 1 24 (.slice none 0 0) := ⟨Try.underlying26, by kernel_rfl⟩
theorem Try.ty28 : Ty Try.prog 28 (.struct #[{ name := "Codes", type := 25, offset := 0, embedded := false, tag := "", pkgPath := "", byteOffset := 0 }, { name := "Ops", type := 26, offset := 1, embedded := false, tag := "", pkgPath := "", byteOffset := 24 }]) 2 48 (.agg #[.slice none 0 0, .slice none 0 0]) := ⟨Try.underlying28, by kernel_rfl⟩
theorem Try.ty29 : Ty Try.prog 29 (.int .i64) 1 8 (.int .i64 0) := ⟨Try.underlying29, by kernel_rfl⟩
theorem Try.ty33 : Ty Try.prog 33 (.struct #[{ name := "Who", type := 3, offset := 0, embedded := false, tag := "", pkgPath := "", byteOffset := 0 }, { name := "Reg", type := 3, offset := 1, embedded := false, tag := "", pkgPath := "", byteOffset := 8 }, { name := "Write", type := 4, offset := 2, embedded := false, tag := "", pkgPath := "", byteOffset := 16 }, { name := "Val", type := 2, offset := 3, embedded := false, tag := "", pkgPath := "", byteOffset := 24 }, { name := "From", type := 3, offset := 4, embedded := false, tag := "", pkgPath := "", byteOffset := 32 }, { name := "To", type := 3, offset := 5, embedded := false, tag := "", pkgPath := "", byteOffset := 40 }]) 6 48 (.agg #[.int .i64 0, .int .i64 0, .bool false, .int .i64 0, .int .i64 0, .int .i64 0]) := ⟨Try.underlying33, by kernel_rfl⟩
theorem Try.ty38 : Ty Try.prog 38 (.slice 3) 1 24 (.slice none 0 0) := ⟨Try.underlying38, by kernel_rfl⟩
theorem Try.ty41 : Ty Try.prog 41 (.pointer 47) 1 8 (.pointer none) := ⟨Try.underlying41, by kernel_rfl⟩
theorem Try.ty42 : Ty Try.prog 42 (.slice 51) 1 24 (.slice none 0 0) := ⟨Try.underlying42, by kernel_rfl⟩
theorem Try.ty43 : Ty Try.prog 43 (.slice 44) 1 24 (.slice none 0 0) := ⟨Try.underlying43, by kernel_rfl⟩
theorem Try.ty44 : Ty Try.prog 44 (.pointer 54) 1 8 (.pointer none) := ⟨Try.underlying44, by kernel_rfl⟩
theorem Try.ty45 : Ty Try.prog 45 (.array 4 44) 4 32 (.agg #[.pointer none, .pointer none, .pointer none, .pointer none]) := ⟨Try.underlying45, by kernel_rfl⟩
theorem Try.ty47 : Ty Try.prog 47 (.struct #[{ name := "copies", type := 42, offset := 0, embedded := false, tag := "", pkgPath := "folkmoot/register", byteOffset := 0 }, { name := "ops", type := 43, offset := 1, embedded := false, tag := "", pkgPath := "folkmoot/register", byteOffset := 24 }, { name := "now", type := 45, offset := 2, embedded := false, tag := "", pkgPath := "folkmoot/register", byteOffset := 48 }]) 6 80 (.agg #[.slice none 0 0, .slice none 0 0, .pointer none, .pointer none, .pointer none, .pointer none]) := ⟨Try.underlying47, by kernel_rfl⟩
theorem Try.ty49 : Ty Try.prog 49 (.pointer 33) 1 8 (.pointer none) := ⟨Try.underlying49, by kernel_rfl⟩
theorem Try.ty51 : Ty Try.prog 51 (.struct #[{ name := "n", type := 3, offset := 0, embedded := false, tag := "", pkgPath := "folkmoot/register", byteOffset := 0 }, { name := "who", type := 3, offset := 1, embedded := false, tag := "", pkgPath := "folkmoot/register", byteOffset := 8 }, { name := "val", type := 2, offset := 2, embedded := false, tag := "", pkgPath := "folkmoot/register", byteOffset := 16 }]) 3 24 (.agg #[.int .i64 0, .int .i64 0, .int .i64 0]) := ⟨Try.underlying51, by kernel_rfl⟩
theorem Try.ty52 : Ty Try.prog 52 (.int .u32) 1 4 (.int .u32 0) := ⟨Try.underlying52, by kernel_rfl⟩
theorem Try.ty54 : Ty Try.prog 54 (.struct #[{ name := "Op", type := 49, offset := 0, embedded := true, tag := "", pkgPath := "", byteOffset := 0 }, { name := "best", type := 51, offset := 1, embedded := false, tag := "", pkgPath := "folkmoot/register", byteOffset := 8 }, { name := "second", type := 4, offset := 4, embedded := false, tag := "", pkgPath := "folkmoot/register", byteOffset := 32 }, { name := "seen", type := 52, offset := 5, embedded := false, tag := "", pkgPath := "folkmoot/register", byteOffset := 36 }, { name := "many", type := 3, offset := 6, embedded := false, tag := "", pkgPath := "folkmoot/register", byteOffset := 40 }]) 7 48 (.agg #[.pointer none, .int .i64 0, .int .i64 0, .int .i64 0, .bool false, .int .u32 0, .int .i64 0]) := ⟨Try.underlying54, by kernel_rfl⟩
theorem Try.ty56 : Ty Try.prog 56 (.pointer 59) 1 8 (.pointer none) := ⟨Try.underlying56, by kernel_rfl⟩
theorem Try.ty57 : Ty Try.prog 57 (.array 4 2) 4 32 (.agg #[.int .i64 0, .int .i64 0, .int .i64 0, .int .i64 0]) := ⟨Try.underlying57, by kernel_rfl⟩
theorem Try.ty59 : Ty Try.prog 59 (.struct #[{ name := "h", type := 26, offset := 0, embedded := false, tag := "", pkgPath := "folkmoot/linear", byteOffset := 0 }, { name := "in", type := 52, offset := 1, embedded := false, tag := "", pkgPath := "folkmoot/linear", byteOffset := 24 }, { name := "list", type := 38, offset := 2, embedded := false, tag := "", pkgPath := "folkmoot/linear", byteOffset := 32 }, { name := "regs", type := 57, offset := 3, embedded := false, tag := "", pkgPath := "folkmoot/linear", byteOffset := 56 }]) 7 88 (.agg #[.slice none 0 0, .int .u32 0, .slice none 0 0, .int .i64 0, .int .i64 0, .int .i64 0, .int .i64 0]) := ⟨Try.underlying59, by kernel_rfl⟩
theorem Try.mixed : Try.prog.follows .mixedOrders = true := by kernel_rfl
theorem Try.fn3 : Fnc Try.prog 3 := fun args w => by go_simp
theorem Try.fn4 : Fnc Try.prog 4 := fun args w => by go_simp
theorem Try.fn5 : Fnc Try.prog 5 := fun args w => by go_simp
theorem Try.fn6 : Fnc Try.prog 6 := fun args w => by go_simp
theorem Try.fn7 : Fnc Try.prog 7 := fun args w => by go_simp
theorem Try.fn8 : Fnc Try.prog 8 := fun args w => by go_simp
theorem Try.fn9 : Fnc Try.prog 9 := fun args w => by go_simp
theorem Try.fn10 : Fnc Try.prog 10 := fun args w => by go_simp
theorem Try.fn11 : Fnc Try.prog 11 := fun args w => by go_simp
theorem Try.fn12 : Fnc Try.prog 12 := fun args w => by go_simp
theorem Try.fn13 : Fnc Try.prog 13 := fun args w => by go_simp
theorem Try.fn14 : Fnc Try.prog 14 := fun args w => by go_simp
theorem Try.fn15 : Fnc Try.prog 15 := fun args w => by go_simp
theorem Try.fn16 : Fnc Try.prog 16 := fun args w => by go_simp
theorem Try.fn17 : Fnc Try.prog 17 := fun args w => by go_simp
theorem Try.fn18 : Fnc Try.prog 18 := fun args w => by go_simp
theorem Try.fn19 : Fnc Try.prog 19 := fun args w => by go_simp
theorem Try.fn20 : Fnc Try.prog 20 := fun args w => by go_simp
theorem Try.fn21 : Fnc Try.prog 21 := fun args w => by go_simp
theorem Try.fn22 : Fnc Try.prog 22 := fun args w => by go_simp
theorem Try.fn23 : Fnc Try.prog 23 := fun args w => by go_simp
end Go.Proofs.Ytjiefamdpbnngaa
