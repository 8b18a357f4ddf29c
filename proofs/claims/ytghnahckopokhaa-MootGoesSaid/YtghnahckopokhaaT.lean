/- The types' rows of the table, and the functions that may be called. No condition. -/
import Derived.Test.YtghnahckopokhaaProg
import Derived.Test.YtghnahckopokhaaW2
import Derived.Deep.QuietTactic
namespace Go.Proofs.Ytghnahckopokhaa
open Go.RowKit

theorem Try.ty1 : Ty Try.prog 1 (.func #[] #[] false) 1 8 (.nilFunc) := ⟨Try.underlying1, by kernel_rfl⟩
theorem Try.ty2 : Ty Try.prog 2 (.int .i64) 1 8 (.int .i64 0) := ⟨Try.underlying2, by kernel_rfl⟩
theorem Try.ty3 : Ty Try.prog 3 (.int .i64) 1 8 (.int .i64 0) := ⟨Try.underlying3, by kernel_rfl⟩
theorem Try.ty4 : Ty Try.prog 4 (.bool) 1 1 (.bool false) := ⟨Try.underlying4, by kernel_rfl⟩
theorem Try.ty5 : Ty Try.prog 5 (.int .u8) 1 1 (.int .u8 0) := ⟨Try.underlying5, by kernel_rfl⟩
theorem Try.ty6 : Ty Try.prog 6 (.int .u8) 1 1 (.int .u8 0) := ⟨Try.underlying6, by kernel_rfl⟩
theorem Try.ty7 : Ty Try.prog 7 (.struct #[{ name := "x", type := 2, offset := 0, embedded := false, tag := "", pkgPath := "runtime", byteOffset := 0 }, { name := "y", type := 3, offset := 1, embedded := false, tag := "", pkgPath := "runtime", byteOffset := 8 }, { name := "signed", type := 4, offset := 2, embedded := false, tag := "", pkgPath := "runtime", byteOffset := 16 }, { name := "code", type := 6, offset := 3, embedded := false, tag := "", pkgPath := "runtime", byteOffset := 17 }]) 4 24 (.agg #[.int .i64 0, .int .i64 0, .bool false, .int .u8 0]) := ⟨Try.underlying7, by kernel_rfl⟩
theorem Try.ty22 : Ty Try.prog 22 (.int .u32) 1 4 (.int .u32 0) := ⟨Try.underlying22, by kernel_rfl⟩
theorem Try.ty23 : Ty Try.prog 23 (.slice 42) 1 24 (.slice none 0 0) := ⟨Try.underlying23, by kernel_rfl⟩
theorem Try.ty24 : Ty Try.prog 24 (.slice 29) 1 24 (.slice none 0 0) := ⟨Try.underlying24, by kernel_rfl⟩
theorem Try.ty25 : Ty Try.prog 25 (.slice 35) 1 24 (.slice none 0 0) := ⟨Try.underlying25, by kernel_rfl⟩
theorem Try.ty26 : Ty Try.prog 26 (.slice 4) 1 24 (.slice none 0 0) := ⟨Try.underlying26, by kernel_rfl⟩
theorem Try.ty28 : Ty Try.prog 28 (.struct #[{ name := "Codes", type := 24, offset := 0, embedded := false, tag := "", pkgPath := "", byteOffset := 0 }, { name := "Blocks", type := 25, offset := 1, embedded := false, tag := "", pkgPath := "", byteOffset := 24 }, { name := "Certified", type := 26, offset := 2, embedded := false, tag := "", pkgPath := "", byteOffset := 48 }, { name := "Decided", type := 26, offset := 3, embedded := false, tag := "", pkgPath := "", byteOffset := 72 }]) 4 96 (.agg #[.slice none 0 0, .slice none 0 0, .slice none 0 0, .slice none 0 0]) := ⟨Try.underlying28, by kernel_rfl⟩
theorem Try.ty29 : Ty Try.prog 29 (.int .i64) 1 8 (.int .i64 0) := ⟨Try.underlying29, by kernel_rfl⟩
theorem Try.ty35 : Ty Try.prog 35 (.struct #[{ name := "Parent", type := 3, offset := 0, embedded := false, tag := "", pkgPath := "", byteOffset := 0 }, { name := "Round", type := 3, offset := 1, embedded := false, tag := "", pkgPath := "", byteOffset := 8 }]) 2 16 (.agg #[.int .i64 0, .int .i64 0]) := ⟨Try.underlying35, by kernel_rfl⟩
theorem Try.ty37 : Ty Try.prog 37 (.slice 3) 1 24 (.slice none 0 0) := ⟨Try.underlying37, by kernel_rfl⟩
theorem Try.ty42 : Ty Try.prog 42 (.struct #[{ name := "Kind", type := 3, offset := 0, embedded := false, tag := "", pkgPath := "", byteOffset := 0 }, { name := "Who", type := 3, offset := 1, embedded := false, tag := "", pkgPath := "", byteOffset := 8 }, { name := "Block", type := 3, offset := 2, embedded := false, tag := "", pkgPath := "", byteOffset := 16 }, { name := "Round", type := 3, offset := 3, embedded := false, tag := "", pkgPath := "", byteOffset := 24 }, { name := "High", type := 3, offset := 4, embedded := false, tag := "", pkgPath := "", byteOffset := 32 }]) 5 40 (.agg #[.int .i64 0, .int .i64 0, .int .i64 0, .int .i64 0, .int .i64 0]) := ⟨Try.underlying42, by kernel_rfl⟩
theorem Try.ty45 : Ty Try.prog 45 (.pointer 51) 1 8 (.pointer none) := ⟨Try.underlying45, by kernel_rfl⟩
theorem Try.ty46 : Ty Try.prog 46 (.slice 22) 1 24 (.slice none 0 0) := ⟨Try.underlying46, by kernel_rfl⟩
theorem Try.ty47 : Ty Try.prog 47 (.slice 65) 1 24 (.slice none 0 0) := ⟨Try.underlying47, by kernel_rfl⟩
theorem Try.ty48 : Ty Try.prog 48 (.map 67 3) 1 8 (.map none) := ⟨Try.underlying48, by kernel_rfl⟩
theorem Try.ty49 : Ty Try.prog 49 (.map 68 3) 1 8 (.map none) := ⟨Try.underlying49, by kernel_rfl⟩
theorem Try.ty51 : Ty Try.prog 51 (.struct #[{ name := "n", type := 3, offset := 0, embedded := false, tag := "", pkgPath := "folkmoot/moot", byteOffset := 0 }, { name := "need", type := 3, offset := 1, embedded := false, tag := "", pkgPath := "folkmoot/moot", byteOffset := 8 }, { name := "liars", type := 22, offset := 2, embedded := false, tag := "", pkgPath := "folkmoot/moot", byteOffset := 16 }, { name := "blocks", type := 25, offset := 3, embedded := false, tag := "", pkgPath := "folkmoot/moot", byteOffset := 24 }, { name := "votes", type := 46, offset := 4, embedded := false, tag := "", pkgPath := "folkmoot/moot", byteOffset := 48 }, { name := "members", type := 47, offset := 5, embedded := false, tag := "", pkgPath := "folkmoot/moot", byteOffset := 72 }, { name := "late", type := 48, offset := 6, embedded := false, tag := "", pkgPath := "folkmoot/moot", byteOffset := 96 }, { name := "gave", type := 49, offset := 7, embedded := false, tag := "", pkgPath := "folkmoot/moot", byteOffset := 104 }]) 8 112 (.agg #[.int .i64 0, .int .i64 0, .int .u32 0, .slice none 0 0, .slice none 0 0, .slice none 0 0, .map none, .map none]) := ⟨Try.underlying51, by kernel_rfl⟩
theorem Try.ty53 : Ty Try.prog 53 (.func #[3] #[4] false) 1 8 (.nilFunc) := ⟨Try.underlying53, by kernel_rfl⟩
theorem Try.ty58 : Ty Try.prog 58 (.int .u64) 1 8 (.int .u64 0) := ⟨Try.underlying58, by kernel_rfl⟩
theorem Try.ty63 : Ty Try.prog 63 (.pointer 65) 1 8 (.pointer none) := ⟨Try.underlying63, by kernel_rfl⟩
theorem Try.ty65 : Ty Try.prog 65 (.struct #[{ name := "voted", type := 3, offset := 0, embedded := false, tag := "", pkgPath := "folkmoot/moot", byteOffset := 0 }, { name := "knows", type := 3, offset := 1, embedded := false, tag := "", pkgPath := "folkmoot/moot", byteOffset := 8 }]) 2 16 (.agg #[.int .i64 0, .int .i64 0]) := ⟨Try.underlying65, by kernel_rfl⟩
theorem Try.ty67 : Ty Try.prog 67 (.struct #[{ name := "round", type := 3, offset := 0, embedded := false, tag := "", pkgPath := "folkmoot/moot", byteOffset := 0 }, { name := "who", type := 3, offset := 1, embedded := false, tag := "", pkgPath := "folkmoot/moot", byteOffset := 8 }, { name := "high", type := 3, offset := 2, embedded := false, tag := "", pkgPath := "folkmoot/moot", byteOffset := 16 }]) 3 24 (.agg #[.int .i64 0, .int .i64 0, .int .i64 0]) := ⟨Try.underlying67, by kernel_rfl⟩
theorem Try.ty68 : Ty Try.prog 68 (.array 2 3) 2 16 (.agg #[.int .i64 0, .int .i64 0]) := ⟨Try.underlying68, by kernel_rfl⟩
theorem Try.ty69 : Ty Try.prog 69 (.func #[53] #[] false) 1 8 (.nilFunc) := ⟨Try.underlying69, by kernel_rfl⟩
theorem Try.ty70 : Ty Try.prog 70 (.func #[53] #[] false) 1 8 (.nilFunc) := ⟨Try.underlying70, by kernel_rfl⟩
theorem Try.mixed : Try.prog.follows .mixedOrders = true := by kernel_rfl
theorem Try.fn3 : Fnc Try.prog 3 := fun args w => by go_simp
theorem Try.fn4 : Fnc Try.prog 4 := fun args w => by go_simp
theorem Try.fn5 : Fnc Try.prog 5 := fun args w => by go_simp
theorem Try.fn6 : Fnc Try.prog 6 := fun args w => by go_simp
theorem Try.fn7 : Fnc Try.prog 7 := fun args w => by go_simp
theorem Try.fn8 : Fnc Try.prog 8 := fun args w => by go_simp
theorem Try.fn9 : Fnc Try.prog 9 := fun args w => by go_simp
theorem Try.fn10 : Fnc Try.prog 10 := fun args w => by go_simp
theorem Try.fn11 : Fnc Try.prog 11 := fun args w => by go_simp
theorem Try.fn12 : Fnc Try.prog 12 := fun args w => by go_simp
theorem Try.fn13 : Fnc Try.prog 13 := fun args w => by go_simp
theorem Try.fn14 : Fnc Try.prog 14 := fun args w => by go_simp
theorem Try.fn15 : Fnc Try.prog 15 := fun args w => by go_simp
theorem Try.fn16 : Fnc Try.prog 16 := fun args w => by go_simp
theorem Try.fn17 : Fnc Try.prog 17 := fun args w => by go_simp
theorem Try.fn18 : Fnc Try.prog 18 := fun args w => by go_simp
theorem Try.fn19 : Fnc Try.prog 19 := fun args w => by go_simp
theorem Try.fn20 : Fnc Try.prog 20 := fun args w => by go_simp
theorem Try.fn21 : Fnc Try.prog 21 := fun args w => by go_simp
theorem Try.fn22 : Fnc Try.prog 22 := fun args w => by go_simp
theorem Try.fn23 : Fnc Try.prog 23 := fun args w => by go_simp
theorem Try.fn24 : Fnc Try.prog 24 := fun args w => by go_simp
theorem Try.fn25 : Fnc Try.prog 25 := fun args w => by go_simp
theorem Try.fn26 : Fnc Try.prog 26 := fun args w => by go_simp
theorem Try.fn27 : Fnc Try.prog 27 := fun args w => by go_simp
theorem Try.fn28 : Fnc Try.prog 28 := fun args w => by go_simp
theorem Try.fn29 : Fnc Try.prog 29 := fun args w => by go_simp
theorem Try.fn30 : Fnc Try.prog 30 := fun args w => by go_simp
theorem Try.fn31 : Fnc Try.prog 31 := fun args w => by go_simp
theorem Try.fn32 : Fnc Try.prog 32 := fun args w => by go_simp
theorem Try.fn33 : Fnc Try.prog 33 := fun args w => by go_simp
theorem Try.fn34 : Fnc Try.prog 34 := fun args w => by go_simp
end Go.Proofs.Ytghnahckopokhaa
