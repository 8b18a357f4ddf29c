/- The types' rows of the table, and the functions that may be called. No condition. -/
import Derived.Test.YtbfcfekpfgpfbaaProg
import Derived.Test.YtbfcfekpfgpfbaaX4
import Derived.Deep.QuietTactic
namespace Go.Proofs.Ytbfcfekpfgpfbaa
open Go.RowKit

theorem Try.ty1 : Ty Try.prog 1 (.func #[] #[] false) 1 8 (.nilFunc) := ⟨Try.underlying1, by kernel_rfl⟩
theorem Try.ty2 : Ty Try.prog 2 (.int .i64) 1 8 (.int .i64 0) := ⟨Try.underlying2, by kernel_rfl⟩
theorem Try.ty3 : Ty Try.prog 3 (.int .i64) 1 8 (.int .i64 0) := ⟨Try.underlying3, by kernel_rfl⟩
theorem Try.ty4 : Ty Try.prog 4 (.bool) 1 1 (.bool false) := ⟨Try.underlying4, by kernel_rfl⟩
theorem Try.ty5 : Ty Try.prog 5 (.int .u8) 1 1 (.int .u8 0) := ⟨Try.underlying5, by kernel_rfl⟩
theorem Try.ty6 : Ty Try.prog 6 (.int .u8) 1 1 (.int .u8 0) := ⟨Try.underlying6, by kernel_rfl⟩
theorem Try.ty22 : Ty Try.prog 22 (.int .u32) 1 4 (.int .u32 0) := ⟨Try.underlying22, by kernel_rfl⟩
theorem Try.ty23 : Ty Try.prog 23 (.slice 34) 1 24 (.slice none 0 0) := ⟨Try.underlying23, by kernel_rfl⟩
theorem Try.ty24 : Ty Try.prog 24 (.slice 29) 1 24 (.slice none 0 0) := ⟨Try.underlying24, by kernel_rfl⟩
theorem Try.ty25 : Ty Try.prog 25 (.slice 4) 1 24 (.slice none 0 0) := ⟨Try.underlying25, by kernel_rfl⟩
theorem Try.ty26 : Ty Try.prog 26 (.slice 2) 1 24 (.slice none 0 0) := ⟨Try.underlying26, by kernel_rfl⟩
theorem Try.ty28 : Ty Try.prog 28 (.struct #[{ name := "Codes", type := 24, offset := 0, embedded := false, tag := "", pkgPath := "", byteOffset := 0 }, { name := "Has", type := 25, offset := 1, embedded := false, tag := "", pkgPath := "", byteOffset := 24 }, { name := "Values", type := 26, offset := 2, embedded := false, tag := "", pkgPath := "", byteOffset := 48 }, { name := "Many", type := 3, offset := 3, embedded := false, tag := "", pkgPath := "", byteOffset := 72 }, { name := "Away", type := 3, offset := 4, embedded := false, tag := "", pkgPath := "", byteOffset := 80 }]) 5 88 (.agg #[.slice none 0 0, .slice none 0 0, .slice none 0 0, .int .i64 0, .int .i64 0]) := ⟨Try.underlying28, by kernel_rfl⟩
theorem Try.ty29 : Ty Try.prog 29 (.int .i64) 1 8 (.int .i64 0) := ⟨Try.underlying29, by kernel_rfl⟩
theorem Try.ty34 : Ty Try.prog 34 (.struct #[{ name := "Kind", type := 3, offset := 0, embedded := false, tag := "", pkgPath := "", byteOffset := 0 }, { name := "From", type := 3, offset := 1, embedded := false, tag := "", pkgPath := "", byteOffset := 8 }, { name := "To", type := 3, offset := 2, embedded := false, tag := "", pkgPath := "", byteOffset := 16 }, { name := "What", type := 3, offset := 3, embedded := false, tag := "", pkgPath := "", byteOffset := 24 }, { name := "Msg", type := 3, offset := 4, embedded := false, tag := "", pkgPath := "", byteOffset := 32 }, { name := "N", type := 2, offset := 5, embedded := false, tag := "", pkgPath := "", byteOffset := 40 }]) 6 48 (.agg #[.int .i64 0, .int .i64 0, .int .i64 0, .int .i64 0, .int .i64 0, .int .i64 0]) := ⟨Try.underlying34, by kernel_rfl⟩
theorem Try.ty38 : Ty Try.prog 38 (.pointer 42) 1 8 (.pointer none) := ⟨Try.underlying38, by kernel_rfl⟩
theorem Try.ty39 : Ty Try.prog 39 (.slice 48) 1 24 (.slice none 0 0) := ⟨Try.underlying39, by kernel_rfl⟩
theorem Try.ty40 : Ty Try.prog 40 (.slice 45) 1 24 (.slice none 0 0) := ⟨Try.underlying40, by kernel_rfl⟩
theorem Try.ty42 : Ty Try.prog 42 (.struct #[{ name := "n", type := 3, offset := 0, embedded := false, tag := "", pkgPath := "folkmoot/bracha", byteOffset := 0 }, { name := "f", type := 3, offset := 1, embedded := false, tag := "", pkgPath := "folkmoot/bracha", byteOffset := 8 }, { name := "liars", type := 22, offset := 2, embedded := false, tag := "", pkgPath := "folkmoot/bracha", byteOffset := 16 }, { name := "sender", type := 3, offset := 3, embedded := false, tag := "", pkgPath := "folkmoot/bracha", byteOffset := 24 }, { name := "all", type := 39, offset := 4, embedded := false, tag := "", pkgPath := "folkmoot/bracha", byteOffset := 32 }, { name := "procs", type := 40, offset := 5, embedded := false, tag := "", pkgPath := "folkmoot/bracha", byteOffset := 56 }, { name := "started", type := 4, offset := 6, embedded := false, tag := "", pkgPath := "folkmoot/bracha", byteOffset := 80 }]) 7 88 (.agg #[.int .i64 0, .int .i64 0, .int .u32 0, .int .i64 0, .slice none 0 0, .slice none 0 0, .bool false]) := ⟨Try.underlying42, by kernel_rfl⟩
theorem Try.ty43 : Ty Try.prog 43 (.map 60 2) 1 8 (.map none) := ⟨Try.underlying43, by kernel_rfl⟩
theorem Try.ty45 : Ty Try.prog 45 (.struct #[{ name := "heard", type := 43, offset := 0, embedded := false, tag := "", pkgPath := "folkmoot/bracha", byteOffset := 0 }, { name := "echoed", type := 4, offset := 1, embedded := false, tag := "", pkgPath := "folkmoot/bracha", byteOffset := 8 }, { name := "ready", type := 4, offset := 2, embedded := false, tag := "", pkgPath := "folkmoot/bracha", byteOffset := 9 }, { name := "has", type := 4, offset := 3, embedded := false, tag := "", pkgPath := "folkmoot/bracha", byteOffset := 10 }, { name := "value", type := 2, offset := 4, embedded := false, tag := "", pkgPath := "folkmoot/bracha", byteOffset := 16 }]) 5 24 (.agg #[.map none, .bool false, .bool false, .bool false, .int .i64 0]) := ⟨Try.underlying45, by kernel_rfl⟩
theorem Try.ty48 : Ty Try.prog 48 (.struct #[{ name := "from", type := 3, offset := 0, embedded := false, tag := "", pkgPath := "folkmoot/bracha", byteOffset := 0 }, { name := "to", type := 3, offset := 1, embedded := false, tag := "", pkgPath := "folkmoot/bracha", byteOffset := 8 }, { name := "what", type := 3, offset := 2, embedded := false, tag := "", pkgPath := "folkmoot/bracha", byteOffset := 16 }, { name := "n", type := 2, offset := 3, embedded := false, tag := "", pkgPath := "folkmoot/bracha", byteOffset := 24 }, { name := "come", type := 4, offset := 4, embedded := false, tag := "", pkgPath := "folkmoot/bracha", byteOffset := 32 }]) 5 40 (.agg #[.int .i64 0, .int .i64 0, .int .i64 0, .int .i64 0, .bool false]) := ⟨Try.underlying48, by kernel_rfl⟩
theorem Try.ty49 : Ty Try.prog 49 (.func #[48] #[4] false) 1 8 (.nilFunc) := ⟨Try.underlying49, by kernel_rfl⟩
theorem Try.ty53 : Ty Try.prog 53 (.int .u64) 1 8 (.int .u64 0) := ⟨Try.underlying53, by kernel_rfl⟩
theorem Try.ty58 : Ty Try.prog 58 (.pointer 45) 1 8 (.pointer none) := ⟨Try.underlying58, by kernel_rfl⟩
theorem Try.ty60 : Ty Try.prog 60 (.struct #[{ name := "who", type := 3, offset := 0, embedded := false, tag := "", pkgPath := "folkmoot/bracha", byteOffset := 0 }, { name := "what", type := 3, offset := 1, embedded := false, tag := "", pkgPath := "folkmoot/bracha", byteOffset := 8 }]) 2 16 (.agg #[.int .i64 0, .int .i64 0]) := ⟨Try.underlying60, by kernel_rfl⟩
theorem Try.mixed : Try.prog.follows .mixedOrders = true := by kernel_rfl
theorem Try.fn3 : Fnc Try.prog 3 := fun args w => by go_simp
theorem Try.fn4 : Fnc Try.prog 4 := fun args w => by go_simp
theorem Try.fn5 : Fnc Try.prog 5 := fun args w => by go_simp
theorem Try.fn6 : Fnc Try.prog 6 := fun args w => by go_simp
theorem Try.fn7 : Fnc Try.prog 7 := fun args w => by go_simp
theorem Try.fn8 : Fnc Try.prog 8 := fun args w => by go_simp
theorem Try.fn9 : Fnc Try.prog 9 := fun args w => by go_simp
theorem Try.fn10 : Fnc Try.prog 10 := fun args w => by go_simp
theorem Try.fn11 : Fnc Try.prog 11 := fun args w => by go_simp
theorem Try.fn12 : Fnc Try.prog 12 := fun args w => by go_simp
theorem Try.fn13 : Fnc Try.prog 13 := fun args w => by go_simp
theorem Try.fn14 : Fnc Try.prog 14 := fun args w => by go_simp
theorem Try.fn15 : Fnc Try.prog 15 := fun args w => by go_simp
theorem Try.fn16 : Fnc Try.prog 16 := fun args w => by go_simp
theorem Try.fn17 : Fnc Try.prog 17 := fun args w => by go_simp
theorem Try.fn18 : Fnc Try.prog 18 := fun args w => by go_simp
theorem Try.fn19 : Fnc Try.prog 19 := fun args w => by go_simp
theorem Try.fn20 : Fnc Try.prog 20 := fun args w => by go_simp
theorem Try.fn21 : Fnc Try.prog 21 := fun args w => by go_simp
end Go.Proofs.Ytbfcfekpfgpfbaa
