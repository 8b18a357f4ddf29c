/- The types' rows of the table, and the functions that may be called. No condition. -/
import Derived.Test.YtocgifddjpbmlaaProg
import Derived.Test.YtocgifddjpbmlaaX4
import Derived.Deep.QuietTactic
namespace Go.Proofs.Ytocgifddjpbmlaa
open Go.RowKit

theorem Try.ty1 : Ty Try.prog 1 (.func #[] #[] false) 1 8 (.nilFunc) := ⟨Try.underlying1, by kernel_rfl⟩
theorem Try.ty2 : Ty Try.prog 2 (.int .i64) 1 8 (.int .i64 0) := ⟨Try.underlying2, by kernel_rfl⟩
theorem Try.ty3 : Ty Try.prog 3 (.int .i64) 1 8 (.int .i64 0) := ⟨Try.underlying3, by kernel_rfl⟩
theorem Try.ty4 : Ty Try.prog 4 (.bool) 1 1 (.bool false) := ⟨Try.underlying4, by kernel_rfl⟩
theorem Try.ty5 : Ty Try.prog 5 (.int .u8) 1 1 (.int .u8 0) := ⟨Try.underlying5, by kernel_rfl⟩
theorem Try.ty22 : Ty Try.prog 22 (.slice 31) 1 24 (.slice none 0 0) := ⟨Try.underlying22, by kernel_rfl⟩
theorem Try.ty23 : Ty Try.prog 23 (.slice 3) 1 24 (.slice none 0 0) := ⟨Try.underlying23, by kernel_rfl⟩
theorem Try.ty24 : Ty Try.prog 24 (.int .i64) 1 8 (.int .i64 0) := ⟨Try.underlying24, by kernel_rfl⟩
theorem Try.ty31 : Ty Try.prog 31 (.struct #[{ name := "Who", type := 3, offset := 0, embedded := false, tag := "", pkgPath := "", byteOffset := 0 }, { name := "Reg", type := 3, offset := 1, embedded := false, tag := "", pkgPath := "", byteOffset := 8 }, { name := "Write", type := 4, offset := 2, embedded := false, tag := "", pkgPath := "", byteOffset := 16 }, { name := "Val", type := 2, offset := 3, embedded := false, tag := "", pkgPath := "", byteOffset := 24 }, { name := "From", type := 3, offset := 4, embedded := false, tag := "", pkgPath := "", byteOffset := 32 }, { name := "To", type := 3, offset := 5, embedded := false, tag := "", pkgPath := "", byteOffset := 40 }]) 6 48 (.agg #[.int .i64 0, .int .i64 0, .bool false, .int .i64 0, .int .i64 0, .int .i64 0]) := ⟨Try.underlying31, by kernel_rfl⟩
theorem Try.ty33 : Ty Try.prog 33 (.slice 2) 1 24 (.slice none 0 0) := ⟨Try.underlying33, by kernel_rfl⟩
theorem Try.ty36 : Ty Try.prog 36 (.pointer 40) 1 8 (.pointer none) := ⟨Try.underlying36, by kernel_rfl⟩
theorem Try.ty37 : Ty Try.prog 37 (.int .u32) 1 4 (.int .u32 0) := ⟨Try.underlying37, by kernel_rfl⟩
theorem Try.ty38 : Ty Try.prog 38 (.array 4 2) 4 32 (.agg #[.int .i64 0, .int .i64 0, .int .i64 0, .int .i64 0]) := ⟨Try.underlying38, by kernel_rfl⟩
theorem Try.ty40 : Ty Try.prog 40 (.struct #[{ name := "h", type := 22, offset := 0, embedded := false, tag := "", pkgPath := "folkmoot/linear", byteOffset := 0 }, { name := "in", type := 37, offset := 1, embedded := false, tag := "", pkgPath := "folkmoot/linear", byteOffset := 24 }, { name := "list", type := 23, offset := 2, embedded := false, tag := "", pkgPath := "folkmoot/linear", byteOffset := 32 }, { name := "regs", type := 38, offset := 3, embedded := false, tag := "", pkgPath := "folkmoot/linear", byteOffset := 56 }]) 7 88 (.agg #[.slice none 0 0, .int .u32 0, .slice none 0 0, .int .i64 0, .int .i64 0, .int .i64 0, .int .i64 0]) := ⟨Try.underlying40, by kernel_rfl⟩
theorem Try.mixed : Try.prog.follows .mixedOrders = true := by kernel_rfl
theorem Try.fn3 : Fnc Try.prog 3 := fun args w => by go_simp
theorem Try.fn4 : Fnc Try.prog 4 := fun args w => by go_simp
theorem Try.fn5 : Fnc Try.prog 5 := fun args w => by go_simp
theorem Try.fn6 : Fnc Try.prog 6 := fun args w => by go_simp
theorem Try.fn7 : Fnc Try.prog 7 := fun args w => by go_simp
theorem Try.fn8 : Fnc Try.prog 8 := fun args w => by go_simp
theorem Try.fn9 : Fnc Try.prog 9 := fun args w => by go_simp
theorem Try.fn10 : Fnc Try.prog 10 := fun args w => by go_simp
theorem Try.fn11 : Fnc Try.prog 11 := fun args w => by go_simp
theorem Try.fn12 : Fnc Try.prog 12 := fun args w => by go_simp
theorem Try.fn13 : Fnc Try.prog 13 := fun args w => by go_simp
theorem Try.fn14 : Fnc Try.prog 14 := fun args w => by go_simp
theorem Try.fn15 : Fnc Try.prog 15 := fun args w => by go_simp
theorem Try.fn16 : Fnc Try.prog 16 := fun args w => by go_simp
theorem Try.fn17 : Fnc Try.prog 17 := fun args w => by go_simp
theorem Try.fn18 : Fnc Try.prog 18 := fun args w => by go_simp
theorem Try.fn19 : Fnc Try.prog 19 := fun args w => by go_simp
theorem Try.fn20 : Fnc Try.prog 20 := fun args w => by go_simp
theorem Try.fn21 : Fnc Try.prog 21 := fun args w => by go_simp
end Go.Proofs.Ytocgifddjpbmlaa
