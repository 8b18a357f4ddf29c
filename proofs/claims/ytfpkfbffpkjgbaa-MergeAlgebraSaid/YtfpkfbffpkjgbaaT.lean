/- The types' rows of the table, and the functions that may be called. No condition. -/
import Derived.Test.YtfpkfbffpkjgbaaProg
import Derived.Test.YtfpkfbffpkjgbaaW2
import Derived.Deep.QuietTactic
namespace Go.Proofs.Ytfpkfbffpkjgbaa
open Go.RowKit

theorem Try.ty1 : Ty Try.prog 1 (.func #[] #[] false) 1 8 (.nilFunc) := ⟨Try.underlying1, by kernel_rfl⟩
theorem Try.ty2 : Ty Try.prog 2 (.int .i64) 1 8 (.int .i64 0) := ⟨Try.underlying2, by kernel_rfl⟩
theorem Try.ty3 : Ty Try.prog 3 (.int .i64) 1 8 (.int .i64 0) := ⟨Try.underlying3, by kernel_rfl⟩
theorem Try.ty4 : Ty Try.prog 4 (.bool) 1 1 (.bool false) := ⟨Try.underlying4, by kernel_rfl⟩
theorem Try.ty5 : Ty Try.prog 5 (.int .u8) 1 1 (.int .u8 0) := ⟨Try.underlying5, by kernel_rfl⟩
theorem Try.ty22 : Ty Try.prog 22 (.slice 2) 1 24 (.slice none 0 0) := ⟨Try.underlying22, by kernel_rfl⟩
theorem Try.ty24 : Ty Try.prog 24 (.struct #[{ name := "N", type := 3, offset := 0, embedded := false, tag := "", pkgPath := "", byteOffset := 0 }, { name := "Who", type := 3, offset := 1, embedded := false, tag := "", pkgPath := "", byteOffset := 8 }, { name := "Val", type := 2, offset := 2, embedded := false, tag := "", pkgPath := "", byteOffset := 16 }]) 3 24 (.agg #[.int .i64 0, .int .i64 0, .int .i64 0]) := ⟨Try.underlying24, by kernel_rfl⟩
theorem Try.ty25 : Ty Try.prog 25 (.slice 59) 1 24 (.slice none 0 0) := ⟨Try.underlying25, by kernel_rfl⟩
theorem Try.ty27 : Ty Try.prog 27 (.struct #[{ name := "Counts", type := 22, offset := 0, embedded := false, tag := "", pkgPath := "", byteOffset := 0 }, { name := "Last", type := 24, offset := 1, embedded := false, tag := "", pkgPath := "", byteOffset := 24 }, { name := "Adds", type := 25, offset := 4, embedded := false, tag := "", pkgPath := "", byteOffset := 48 }, { name := "Gone", type := 25, offset := 5, embedded := false, tag := "", pkgPath := "", byteOffset := 72 }]) 6 96 (.agg #[.slice none 0 0, .int .i64 0, .int .i64 0, .int .i64 0, .slice none 0 0, .slice none 0 0]) := ⟨Try.underlying27, by kernel_rfl⟩
theorem Try.ty28 : Ty Try.prog 28 (.int .i64) 1 8 (.int .i64 0) := ⟨Try.underlying28, by kernel_rfl⟩
theorem Try.ty34 : Ty Try.prog 34 (.slice 42) 1 24 (.slice none 0 0) := ⟨Try.underlying34, by kernel_rfl⟩
theorem Try.ty35 : Ty Try.prog 35 (.slice 27) 1 24 (.slice none 0 0) := ⟨Try.underlying35, by kernel_rfl⟩
theorem Try.ty36 : Ty Try.prog 36 (.slice 28) 1 24 (.slice none 0 0) := ⟨Try.underlying36, by kernel_rfl⟩
theorem Try.ty42 : Ty Try.prog 42 (.struct #[{ name := "Kind", type := 3, offset := 0, embedded := false, tag := "", pkgPath := "", byteOffset := 0 }, { name := "Who", type := 3, offset := 1, embedded := false, tag := "", pkgPath := "", byteOffset := 8 }, { name := "From", type := 3, offset := 2, embedded := false, tag := "", pkgPath := "", byteOffset := 16 }, { name := "Item", type := 3, offset := 3, embedded := false, tag := "", pkgPath := "", byteOffset := 24 }, { name := "N", type := 2, offset := 4, embedded := false, tag := "", pkgPath := "", byteOffset := 32 }]) 5 40 (.agg #[.int .i64 0, .int .i64 0, .int .i64 0, .int .i64 0, .int .i64 0]) := ⟨Try.underlying42, by kernel_rfl⟩
theorem Try.ty45 : Ty Try.prog 45 (.slice 3) 1 24 (.slice none 0 0) := ⟨Try.underlying45, by kernel_rfl⟩
theorem Try.ty51 : Ty Try.prog 51 (.array 2 27) 12 192 (.agg #[.slice none 0 0, .int .i64 0, .int .i64 0, .int .i64 0, .slice none 0 0, .slice none 0 0, .slice none 0 0, .int .i64 0, .int .i64 0, .int .i64 0, .slice none 0 0, .slice none 0 0]) := ⟨Try.underlying51, by kernel_rfl⟩
theorem Try.ty59 : Ty Try.prog 59 (.struct #[{ name := "Item", type := 3, offset := 0, embedded := false, tag := "", pkgPath := "", byteOffset := 0 }, { name := "Who", type := 3, offset := 1, embedded := false, tag := "", pkgPath := "", byteOffset := 8 }, { name := "N", type := 3, offset := 2, embedded := false, tag := "", pkgPath := "", byteOffset := 16 }]) 3 24 (.agg #[.int .i64 0, .int .i64 0, .int .i64 0]) := ⟨Try.underlying59, by kernel_rfl⟩
theorem Try.ty62 : Ty Try.prog 62 (.func #[59, 59] #[3] false) 1 8 (.nilFunc) := ⟨Try.underlying62, by kernel_rfl⟩
theorem Try.ty64 : Ty Try.prog 64 (.func #[3] #[4] false) 1 8 (.nilFunc) := ⟨Try.underlying64, by kernel_rfl⟩
theorem Try.ty66 : Ty Try.prog 66 (.array 2 25) 2 48 (.agg #[.slice none 0 0, .slice none 0 0]) := ⟨Try.underlying66, by kernel_rfl⟩
theorem Try.ty70 : Ty Try.prog 70 (.slice 25) 1 24 (.slice none 0 0) := ⟨Try.underlying70, by kernel_rfl⟩
theorem Try.ty73 : Ty Try.prog 73 (.func #[59] #[4] false) 1 8 (.nilFunc) := ⟨Try.underlying73, by kernel_rfl⟩
theorem Try.ty76 : Ty Try.prog 76 (.int .u64) 1 8 (.int .u64 0) := ⟨Try.underlying76, by kernel_rfl⟩
theorem Try.ty86 : Ty Try.prog 86 (.int .i64) 1 8 (.int .i64 0) := ⟨Try.underlying86, by kernel_rfl⟩
theorem Try.ty93 : Ty Try.prog 93 (.int .u32) 1 4 (.int .u32 0) := ⟨Try.underlying93, by kernel_rfl⟩
theorem Try.ty95 : Ty Try.prog 95 (.int .u64) 1 8 (.int .u64 0) := ⟨Try.underlying95, by kernel_rfl⟩
theorem Try.ty96 : Ty Try.prog 96 (.int .u64) 1 8 (.int .u64 0) := ⟨Try.underlying96, by kernel_rfl⟩
theorem Try.ty100 : Ty Try.prog 100 (.pointer 3) 1 8 (.pointer none) := ⟨Try.underlying100, by kernel_rfl⟩
theorem Try.mixed : Try.prog.follows .mixedOrders = true := by kernel_rfl
theorem Try.fn3 : Fnc Try.prog 3 := fun args w => by go_simp
theorem Try.fn4 : Fnc Try.prog 4 := fun args w => by go_simp
theorem Try.fn5 : Fnc Try.prog 5 := fun args w => by go_simp
theorem Try.fn6 : Fnc Try.prog 6 := fun args w => by go_simp
theorem Try.fn7 : Fnc Try.prog 7 := fun args w => by go_simp
theorem Try.fn8 : Fnc Try.prog 8 := fun args w => by go_simp
theorem Try.fn9 : Fnc Try.prog 9 := fun args w => by go_simp
theorem Try.fn10 : Fnc Try.prog 10 := fun args w => by go_simp
theorem Try.fn11 : Fnc Try.prog 11 := fun args w => by go_simp
theorem Try.fn12 : Fnc Try.prog 12 := fun args w => by go_simp
theorem Try.fn13 : Fnc Try.prog 13 := fun args w => by go_simp
theorem Try.fn14 : Fnc Try.prog 14 := fun args w => by go_simp
theorem Try.fn15 : Fnc Try.prog 15 := fun args w => by go_simp
theorem Try.fn16 : Fnc Try.prog 16 := fun args w => by go_simp
theorem Try.fn17 : Fnc Try.prog 17 := fun args w => by go_simp
theorem Try.fn18 : Fnc Try.prog 18 := fun args w => by go_simp
theorem Try.fn19 : Fnc Try.prog 19 := fun args w => by go_simp
theorem Try.fn20 : Fnc Try.prog 20 := fun args w => by go_simp
theorem Try.fn21 : Fnc Try.prog 21 := fun args w => by go_simp
theorem Try.fn22 : Fnc Try.prog 22 := fun args w => by go_simp
theorem Try.fn23 : Fnc Try.prog 23 := fun args w => by go_simp
theorem Try.fn24 : Fnc Try.prog 24 := fun args w => by go_simp
theorem Try.fn25 : Fnc Try.prog 25 := fun args w => by go_simp
theorem Try.fn26 : Fnc Try.prog 26 := fun args w => by go_simp
theorem Try.fn27 : Fnc Try.prog 27 := fun args w => by go_simp
theorem Try.fn28 : Fnc Try.prog 28 := fun args w => by go_simp
theorem Try.fn29 : Fnc Try.prog 29 := fun args w => by go_simp
theorem Try.fn30 : Fnc Try.prog 30 := fun args w => by go_simp
theorem Try.fn31 : Fnc Try.prog 31 := fun args w => by go_simp
theorem Try.fn32 : Fnc Try.prog 32 := fun args w => by go_simp
theorem Try.fn33 : Fnc Try.prog 33 := fun args w => by go_simp
theorem Try.fn34 : Fnc Try.prog 34 := fun args w => by go_simp
theorem Try.fn35 : Fnc Try.prog 35 := fun args w => by go_simp
theorem Try.fn36 : Fnc Try.prog 36 := fun args w => by go_simp
theorem Try.fn37 : Fnc Try.prog 37 := fun args w => by go_simp
theorem Try.fn38 : Fnc Try.prog 38 := fun args w => by go_simp
theorem Try.fn39 : Fnc Try.prog 39 := fun args w => by go_simp
theorem Try.fn40 : Fnc Try.prog 40 := fun args w => by go_simp
theorem Try.fn41 : Fnc Try.prog 41 := fun args w => by go_simp
theorem Try.fn42 : Fnc Try.prog 42 := fun args w => by go_simp
theorem Try.fn43 : Fnc Try.prog 43 := fun args w => by go_simp
theorem Try.fn44 : Fnc Try.prog 44 := fun args w => by go_simp
theorem Try.fn45 : Fnc Try.prog 45 := fun args w => by go_simp
theorem Try.fn46 : Fnc Try.prog 46 := fun args w => by go_simp
theorem Try.fn47 : Fnc Try.prog 47 := fun args w => by go_simp
theorem Try.fn48 : Fnc Try.prog 48 := fun args w => by go_simp
theorem Try.fn49 : Fnc Try.prog 49 := fun args w => by go_simp
theorem Try.fn50 : Fnc Try.prog 50 := fun args w => by go_simp
theorem Try.fn51 : Fnc Try.prog 51 := fun args w => by go_simp
theorem Try.fn52 : Fnc Try.prog 52 := fun args w => by go_simp
theorem Try.fn53 : Fnc Try.prog 53 := fun args w => by go_simp
theorem Try.fn54 : Fnc Try.prog 54 := fun args w => by go_simp
theorem Try.fn55 : Fnc Try.prog 55 := fun args w => by go_simp
theorem Try.fn56 : Fnc Try.prog 56 := fun args w => by go_simp
theorem Try.fn57 : Fnc Try.prog 57 := fun args w => by go_simp
theorem Try.fn58 : Fnc Try.prog 58 := fun args w => by go_simp
theorem Try.fn59 : Fnc Try.prog 59 := fun args w => by go_simp
theorem Try.fn60 : Fnc Try.prog 60 := fun args w => by go_simp
theorem Try.fn61 : Fnc Try.prog 61 := fun args w => by go_simp
theorem Try.fn63 : Fnc Try.prog 63 := fun args w => by go_simp
theorem Try.fn64 : Fnc Try.prog 64 := fun args w => by go_simp
theorem Try.fn65 : Fnc Try.prog 65 := fun args w => by go_simp
end Go.Proofs.Ytfpkfbffpkjgbaa
