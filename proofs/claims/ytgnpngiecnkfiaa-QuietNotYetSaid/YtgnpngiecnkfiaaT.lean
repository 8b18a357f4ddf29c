/- The types' rows of the table, and the functions that may be called. No condition. -/
import Derived.Test.YtgnpngiecnkfiaaProg
import Derived.Test.YtgnpngiecnkfiaaX4
import Derived.Deep.QuietTactic
namespace Go.Proofs.Ytgnpngiecnkfiaa
open Go.RowKit

theorem Try.ty1 : Ty Try.prog 1 (.func #[] #[] false) 1 8 (.nilFunc) := ⟨Try.underlying1, by kernel_rfl⟩
theorem Try.ty2 : Ty Try.prog 2 (.int .i64) 1 8 (.int .i64 0) := ⟨Try.underlying2, by kernel_rfl⟩
theorem Try.ty3 : Ty Try.prog 3 (.int .i64) 1 8 (.int .i64 0) := ⟨Try.underlying3, by kernel_rfl⟩
theorem Try.ty4 : Ty Try.prog 4 (.bool) 1 1 (.bool false) := ⟨Try.underlying4, by kernel_rfl⟩
theorem Try.ty5 : Ty Try.prog 5 (.int .u8) 1 1 (.int .u8 0) := ⟨Try.underlying5, by kernel_rfl⟩
theorem Try.ty22 : Ty Try.prog 22 (.slice 32) 1 24 (.slice none 0 0) := ⟨Try.underlying22, by kernel_rfl⟩
theorem Try.ty23 : Ty Try.prog 23 (.slice 27) 1 24 (.slice none 0 0) := ⟨Try.underlying23, by kernel_rfl⟩
theorem Try.ty24 : Ty Try.prog 24 (.slice 4) 1 24 (.slice none 0 0) := ⟨Try.underlying24, by kernel_rfl⟩
theorem Try.ty26 : Ty Try.prog 26 (.struct #[{ name := "Codes", type := 23, offset := 0, embedded := false, tag := "", pkgPath := "", byteOffset := 0 }, { name := "Works", type := 24, offset := 1, embedded := false, tag := "", pkgPath := "", byteOffset := 24 }, { name := "Bound", type := 24, offset := 2, embedded := false, tag := "", pkgPath := "", byteOffset := 48 }, { name := "Away", type := 3, offset := 3, embedded := false, tag := "", pkgPath := "", byteOffset := 72 }, { name := "Done", type := 4, offset := 4, embedded := false, tag := "", pkgPath := "", byteOffset := 80 }]) 5 88 (.agg #[.slice none 0 0, .slice none 0 0, .slice none 0 0, .int .i64 0, .bool false]) := ⟨Try.underlying26, by kernel_rfl⟩
theorem Try.ty27 : Ty Try.prog 27 (.int .i64) 1 8 (.int .i64 0) := ⟨Try.underlying27, by kernel_rfl⟩
theorem Try.ty32 : Ty Try.prog 32 (.struct #[{ name := "Kind", type := 3, offset := 0, embedded := false, tag := "", pkgPath := "", byteOffset := 0 }, { name := "Who", type := 3, offset := 1, embedded := false, tag := "", pkgPath := "", byteOffset := 8 }, { name := "Other", type := 3, offset := 2, embedded := false, tag := "", pkgPath := "", byteOffset := 16 }]) 3 24 (.agg #[.int .i64 0, .int .i64 0, .int .i64 0]) := ⟨Try.underlying32, by kernel_rfl⟩
theorem Try.ty35 : Ty Try.prog 35 (.pointer 39) 1 8 (.pointer none) := ⟨Try.underlying35, by kernel_rfl⟩
theorem Try.ty36 : Ty Try.prog 36 (.slice 41) 1 24 (.slice none 0 0) := ⟨Try.underlying36, by kernel_rfl⟩
theorem Try.ty37 : Ty Try.prog 37 (.map 45 3) 1 8 (.map none) := ⟨Try.underlying37, by kernel_rfl⟩
theorem Try.ty39 : Ty Try.prog 39 (.struct #[{ name := "procs", type := 36, offset := 0, embedded := false, tag := "", pkgPath := "folkmoot/quiet", byteOffset := 0 }, { name := "calls", type := 37, offset := 1, embedded := false, tag := "", pkgPath := "folkmoot/quiet", byteOffset := 24 }, { name := "answers", type := 37, offset := 2, embedded := false, tag := "", pkgPath := "folkmoot/quiet", byteOffset := 32 }, { name := "done", type := 4, offset := 3, embedded := false, tag := "", pkgPath := "folkmoot/quiet", byteOffset := 40 }]) 4 48 (.agg #[.slice none 0 0, .map none, .map none, .bool false]) := ⟨Try.underlying39, by kernel_rfl⟩
theorem Try.ty41 : Ty Try.prog 41 (.struct #[{ name := "works", type := 4, offset := 0, embedded := false, tag := "", pkgPath := "folkmoot/quiet", byteOffset := 0 }, { name := "bound", type := 4, offset := 1, embedded := false, tag := "", pkgPath := "folkmoot/quiet", byteOffset := 1 }, { name := "to", type := 3, offset := 2, embedded := false, tag := "", pkgPath := "folkmoot/quiet", byteOffset := 8 }, { name := "owes", type := 3, offset := 3, embedded := false, tag := "", pkgPath := "folkmoot/quiet", byteOffset := 16 }]) 4 24 (.agg #[.bool false, .bool false, .int .i64 0, .int .i64 0]) := ⟨Try.underlying41, by kernel_rfl⟩
theorem Try.ty43 : Ty Try.prog 43 (.array 2 37) 2 16 (.agg #[.map none, .map none]) := ⟨Try.underlying43, by kernel_rfl⟩
theorem Try.ty45 : Ty Try.prog 45 (.struct #[{ name := "from", type := 3, offset := 0, embedded := false, tag := "", pkgPath := "folkmoot/quiet", byteOffset := 0 }, { name := "to", type := 3, offset := 1, embedded := false, tag := "", pkgPath := "folkmoot/quiet", byteOffset := 8 }]) 2 16 (.agg #[.int .i64 0, .int .i64 0]) := ⟨Try.underlying45, by kernel_rfl⟩
theorem Try.ty46 : Ty Try.prog 46 (.func #[3] #[4] false) 1 8 (.nilFunc) := ⟨Try.underlying46, by kernel_rfl⟩
theorem Try.ty48 : Ty Try.prog 48 (.pointer 41) 1 8 (.pointer none) := ⟨Try.underlying48, by kernel_rfl⟩
theorem Try.mixed : Try.prog.follows .mixedOrders = true := by kernel_rfl
theorem Try.fn3 : Fnc Try.prog 3 := fun args w => by go_simp
theorem Try.fn4 : Fnc Try.prog 4 := fun args w => by go_simp
theorem Try.fn5 : Fnc Try.prog 5 := fun args w => by go_simp
theorem Try.fn6 : Fnc Try.prog 6 := fun args w => by go_simp
theorem Try.fn7 : Fnc Try.prog 7 := fun args w => by go_simp
theorem Try.fn8 : Fnc Try.prog 8 := fun args w => by go_simp
theorem Try.fn9 : Fnc Try.prog 9 := fun args w => by go_simp
theorem Try.fn10 : Fnc Try.prog 10 := fun args w => by go_simp
theorem Try.fn11 : Fnc Try.prog 11 := fun args w => by go_simp
theorem Try.fn12 : Fnc Try.prog 12 := fun args w => by go_simp
theorem Try.fn13 : Fnc Try.prog 13 := fun args w => by go_simp
end Go.Proofs.Ytgnpngiecnkfiaa
