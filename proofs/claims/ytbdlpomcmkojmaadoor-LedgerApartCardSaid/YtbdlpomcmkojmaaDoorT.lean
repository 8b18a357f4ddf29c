/- The types' rows of the table, and the functions that may be called. No condition. -/
import Derived.Test.YtbdlpomcmkojmaaDoorProg
import Derived.Test.YtbdlpomcmkojmaaDoorX4
import Derived.Deep.QuietTactic
namespace Go.Proofs.YtbdlpomcmkojmaaDoor
open Go.RowKit

theorem Tryd.ty1 : Ty Tryd.prog 1 (.func #[] #[] false) 1 8 (.nilFunc) := ⟨Tryd.underlying1, by kernel_rfl⟩
theorem Tryd.ty2 : Ty Tryd.prog 2 (.int .i64) 1 8 (.int .i64 0) := ⟨Tryd.underlying2, by kernel_rfl⟩
theorem Tryd.ty3 : Ty Tryd.prog 3 (.int .i64) 1 8 (.int .i64 0) := ⟨Tryd.underlying3, by kernel_rfl⟩
theorem Tryd.ty4 : Ty Tryd.prog 4 (.bool) 1 1 (.bool false) := ⟨Tryd.underlying4, by kernel_rfl⟩
theorem Tryd.ty5 : Ty Tryd.prog 5 (.int .u8) 1 1 (.int .u8 0) := ⟨Tryd.underlying5, by kernel_rfl⟩
theorem Tryd.ty22 : Ty Tryd.prog 22 (.slice 2) 1 24 (.slice none 0 0) := ⟨Tryd.underlying22, by kernel_rfl⟩
theorem Tryd.ty23 : Ty Tryd.prog 23 (.slice 33) 1 24 (.slice none 0 0) := ⟨Tryd.underlying23, by kernel_rfl⟩
theorem Tryd.ty24 : Ty Tryd.prog 24 (.slice 31) 1 24 (.slice none 0 0) := ⟨Tryd.underlying24, by kernel_rfl⟩
theorem Tryd.ty25 : Ty Tryd.prog 25 (.slice 26) 1 24 (.slice none 0 0) := ⟨Tryd.underlying25, by kernel_rfl⟩
theorem Tryd.ty26 : Ty Tryd.prog 26 (.int .i64) 1 8 (.int .i64 0) := ⟨Tryd.underlying26, by kernel_rfl⟩
theorem Tryd.ty31 : Ty Tryd.prog 31 (.struct #[{ name := "N", type := 2, offset := 0, embedded := false, tag := "", pkgPath := "", byteOffset := 0 }, { name := "Serial", type := 3, offset := 1, embedded := false, tag := "", pkgPath := "", byteOffset := 8 }]) 2 16 (.agg #[.int .i64 0, .int .i64 0]) := ⟨Tryd.underlying31, by kernel_rfl⟩
theorem Tryd.ty33 : Ty Tryd.prog 33 (.struct #[{ name := "From", type := 3, offset := 0, embedded := false, tag := "", pkgPath := "", byteOffset := 0 }, { name := "To", type := 3, offset := 1, embedded := false, tag := "", pkgPath := "", byteOffset := 8 }, { name := "Serial", type := 3, offset := 2, embedded := false, tag := "", pkgPath := "", byteOffset := 16 }, { name := "N", type := 2, offset := 3, embedded := false, tag := "", pkgPath := "", byteOffset := 24 }]) 4 32 (.agg #[.int .i64 0, .int .i64 0, .int .i64 0, .int .i64 0]) := ⟨Tryd.underlying33, by kernel_rfl⟩
theorem Tryd.ty39 : Ty Tryd.prog 39 (.func #[2] #[4] false) 1 8 (.nilFunc) := ⟨Tryd.underlying39, by kernel_rfl⟩
theorem Tryd.ty46 : Ty Tryd.prog 46 (.struct #[{ name := "code", type := 26, offset := 0, embedded := false, tag := "", pkgPath := "folkmoot/ledger", byteOffset := 0 }]) 1 8 (.agg #[.int .i64 0]) := ⟨Tryd.underlying46, by kernel_rfl⟩
theorem Tryd.ty49 : Ty Tryd.prog 49 (.func #[3] #[4] false) 1 8 (.nilFunc) := ⟨Tryd.underlying49, by kernel_rfl⟩
theorem Tryd.ty51 : Ty Tryd.prog 51 (.pointer 31) 1 8 (.pointer none) := ⟨Tryd.underlying51, by kernel_rfl⟩
theorem Tryd.mixed : Tryd.prog.follows .mixedOrders = true := by kernel_rfl
theorem Tryd.fn3 : Fnc Tryd.prog 3 := fun args w => by go_simp
theorem Tryd.fn4 : Fnc Tryd.prog 4 := fun args w => by go_simp
theorem Tryd.fn5 : Fnc Tryd.prog 5 := fun args w => by go_simp
theorem Tryd.fn6 : Fnc Tryd.prog 6 := fun args w => by go_simp
theorem Tryd.fn7 : Fnc Tryd.prog 7 := fun args w => by go_simp
theorem Tryd.fn8 : Fnc Tryd.prog 8 := fun args w => by go_simp
theorem Tryd.fn9 : Fnc Tryd.prog 9 := fun args w => by go_simp
theorem Tryd.fn10 : Fnc Tryd.prog 10 := fun args w => by go_simp
theorem Tryd.fn11 : Fnc Tryd.prog 11 := fun args w => by go_simp
theorem Tryd.fn12 : Fnc Tryd.prog 12 := fun args w => by go_simp
theorem Tryd.fn13 : Fnc Tryd.prog 13 := fun args w => by go_simp
theorem Tryd.fn14 : Fnc Tryd.prog 14 := fun args w => by go_simp
theorem Tryd.fn15 : Fnc Tryd.prog 15 := fun args w => by go_simp
theorem Tryd.fn17 : Fnc Tryd.prog 17 := fun args w => by go_simp
theorem Tryd.fn18 : Fnc Tryd.prog 18 := fun args w => by go_simp
end Go.Proofs.YtbdlpomcmkojmaaDoor
