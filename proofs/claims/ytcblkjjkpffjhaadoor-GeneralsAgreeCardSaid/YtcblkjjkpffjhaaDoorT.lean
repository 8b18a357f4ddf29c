/- The types' rows of the table, and the functions that may be called. No condition. -/
import Derived.Test.YtcblkjjkpffjhaaDoorProg
import Derived.Test.YtcblkjjkpffjhaaDoorX4
import Derived.Deep.QuietTactic
namespace Go.Proofs.YtcblkjjkpffjhaaDoor
open Go.RowKit

theorem Tryd.ty1 : Ty Tryd.prog 1 (.func #[] #[] false) 1 8 (.nilFunc) := ⟨Tryd.underlying1, by kernel_rfl⟩
theorem Tryd.ty3 : Ty Tryd.prog 3 (.int .i64) 1 8 (.int .i64 0) := ⟨Tryd.underlying3, by kernel_rfl⟩
theorem Tryd.ty4 : Ty Tryd.prog 4 (.bool) 1 1 (.bool false) := ⟨Tryd.underlying4, by kernel_rfl⟩
theorem Tryd.ty5 : Ty Tryd.prog 5 (.int .u8) 1 1 (.int .u8 0) := ⟨Tryd.underlying5, by kernel_rfl⟩
theorem Tryd.ty22 : Ty Tryd.prog 22 (.int .u32) 1 4 (.int .u32 0) := ⟨Tryd.underlying22, by kernel_rfl⟩
theorem Tryd.ty23 : Ty Tryd.prog 23 (.int .u64) 1 8 (.int .u64 0) := ⟨Tryd.underlying23, by kernel_rfl⟩
theorem Tryd.ty24 : Ty Tryd.prog 24 (.slice 4) 1 24 (.slice none 0 0) := ⟨Tryd.underlying24, by kernel_rfl⟩
theorem Tryd.ty25 : Ty Tryd.prog 25 (.int .i64) 1 8 (.int .i64 0) := ⟨Tryd.underlying25, by kernel_rfl⟩
theorem Tryd.ty33 : Ty Tryd.prog 33 (.struct #[{ name := "traitors", type := 22, offset := 0, embedded := false, tag := "", pkgPath := "folkmoot/generals", byteOffset := 0 }, { name := "lies", type := 23, offset := 1, embedded := false, tag := "", pkgPath := "folkmoot/generals", byteOffset := 8 }]) 2 16 (.agg #[.int .u32 0, .int .u64 0]) := ⟨Tryd.underlying33, by kernel_rfl⟩
theorem Tryd.ty34 : Ty Tryd.prog 34 (.map 3 4) 1 8 (.map none) := ⟨Tryd.underlying34, by kernel_rfl⟩
theorem Tryd.ty36 : Ty Tryd.prog 36 (.slice 3) 1 24 (.slice none 0 0) := ⟨Tryd.underlying36, by kernel_rfl⟩
theorem Tryd.ty38 : Ty Tryd.prog 38 (.int .u64) 1 8 (.int .u64 0) := ⟨Tryd.underlying38, by kernel_rfl⟩
theorem Tryd.ty40 : Ty Tryd.prog 40 (.map 3 3) 1 8 (.map none) := ⟨Tryd.underlying40, by kernel_rfl⟩
theorem Tryd.ty41 : Ty Tryd.prog 41 (.func #[3, 4] #[] false) 1 8 (.nilFunc) := ⟨Tryd.underlying41, by kernel_rfl⟩
theorem Tryd.ty43 : Ty Tryd.prog 43 (.array 32 5) 32 32 (.agg #[.int .u8 0, .int .u8 0, .int .u8 0, .int .u8 0, .int .u8 0, .int .u8 0, .int .u8 0, .int .u8 0, .int .u8 0, .int .u8 0, .int .u8 0, .int .u8 0, .int .u8 0, .int .u8 0, .int .u8 0, .int .u8 0, .int .u8 0, .int .u8 0, .int .u8 0, .int .u8 0, .int .u8 0, .int .u8 0, .int .u8 0, .int .u8 0, .int .u8 0, .int .u8 0, .int .u8 0, .int .u8 0, .int .u8 0, .int .u8 0, .int .u8 0, .int .u8 0]) := ⟨Tryd.underlying43, by kernel_rfl⟩
theorem Tryd.mixed : Tryd.prog.follows .mixedOrders = true := by kernel_rfl
theorem Tryd.fn3 : Fnc Tryd.prog 3 := fun args w => by go_simp
theorem Tryd.fn4 : Fnc Tryd.prog 4 := fun args w => by go_simp
theorem Tryd.fn5 : Fnc Tryd.prog 5 := fun args w => by go_simp
theorem Tryd.fn6 : Fnc Tryd.prog 6 := fun args w => by go_simp
theorem Tryd.fn7 : Fnc Tryd.prog 7 := fun args w => by go_simp
theorem Tryd.fn8 : Fnc Tryd.prog 8 := fun args w => by go_simp
theorem Tryd.fn9 : Fnc Tryd.prog 9 := fun args w => by go_simp
theorem Tryd.fn10 : Fnc Tryd.prog 10 := fun args w => by go_simp
theorem Tryd.fn11 : Fnc Tryd.prog 11 := fun args w => by go_simp
theorem Tryd.fn12 : Fnc Tryd.prog 12 := fun args w => by go_simp
theorem Tryd.fn13 : Fnc Tryd.prog 13 := fun args w => by go_simp
theorem Tryd.fn14 : Fnc Tryd.prog 14 := fun args w => by go_simp
theorem Tryd.fn15 : Fnc Tryd.prog 15 := fun args w => by go_simp
end Go.Proofs.YtcblkjjkpffjhaaDoor
