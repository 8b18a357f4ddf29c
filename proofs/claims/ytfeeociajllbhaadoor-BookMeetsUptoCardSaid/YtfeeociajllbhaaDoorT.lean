/- The types' rows of the table, and the functions that may be called. No condition. -/
import Derived.Test.YtfeeociajllbhaaDoorProg
import Derived.Test.YtfeeociajllbhaaDoorW2
import Derived.Deep.QuietTactic
namespace Go.Proofs.YtfeeociajllbhaaDoor
open Go.RowKit

theorem Tryd.ty1 : Ty Tryd.prog 1 (.func #[] #[] false) 1 8 (.nilFunc) := ⟨Tryd.underlying1, by kernel_rfl⟩
theorem Tryd.ty2 : Ty Tryd.prog 2 (.int .i64) 1 8 (.int .i64 0) := ⟨Tryd.underlying2, by kernel_rfl⟩
theorem Tryd.ty3 : Ty Tryd.prog 3 (.int .i64) 1 8 (.int .i64 0) := ⟨Tryd.underlying3, by kernel_rfl⟩
theorem Tryd.ty4 : Ty Tryd.prog 4 (.bool) 1 1 (.bool false) := ⟨Tryd.underlying4, by kernel_rfl⟩
theorem Tryd.ty5 : Ty Tryd.prog 5 (.int .u8) 1 1 (.int .u8 0) := ⟨Tryd.underlying5, by kernel_rfl⟩
theorem Tryd.ty6 : Ty Tryd.prog 6 (.int .u8) 1 1 (.int .u8 0) := ⟨Tryd.underlying6, by kernel_rfl⟩
theorem Tryd.ty7 : Ty Tryd.prog 7 (.struct #[{ name := "x", type := 2, offset := 0, embedded := false, tag := "", pkgPath := "runtime", byteOffset := 0 }, { name := "y", type := 3, offset := 1, embedded := false, tag := "", pkgPath := "runtime", byteOffset := 8 }, { name := "signed", type := 4, offset := 2, embedded := false, tag := "", pkgPath := "runtime", byteOffset := 16 }, { name := "code", type := 6, offset := 3, embedded := false, tag := "", pkgPath := "runtime", byteOffset := 17 }]) 4 24 (.agg #[.int .i64 0, .int .i64 0, .bool false, .int .u8 0]) := ⟨Tryd.underlying7, by kernel_rfl⟩
theorem Tryd.ty22 : Ty Tryd.prog 22 (.int .u32) 1 4 (.int .u32 0) := ⟨Tryd.underlying22, by kernel_rfl⟩
theorem Tryd.ty23 : Ty Tryd.prog 23 (.slice 55) 1 24 (.slice none 0 0) := ⟨Tryd.underlying23, by kernel_rfl⟩
theorem Tryd.ty24 : Ty Tryd.prog 24 (.slice 2) 1 24 (.slice none 0 0) := ⟨Tryd.underlying24, by kernel_rfl⟩
theorem Tryd.ty25 : Ty Tryd.prog 25 (.slice 34) 1 24 (.slice none 0 0) := ⟨Tryd.underlying25, by kernel_rfl⟩
theorem Tryd.ty26 : Ty Tryd.prog 26 (.slice 31) 1 24 (.slice none 0 0) := ⟨Tryd.underlying26, by kernel_rfl⟩
theorem Tryd.ty27 : Ty Tryd.prog 27 (.slice 47) 1 24 (.slice none 0 0) := ⟨Tryd.underlying27, by kernel_rfl⟩
theorem Tryd.ty28 : Ty Tryd.prog 28 (.slice 4) 1 24 (.slice none 0 0) := ⟨Tryd.underlying28, by kernel_rfl⟩
theorem Tryd.ty30 : Ty Tryd.prog 30 (.struct #[{ name := "Codes", type := 26, offset := 0, embedded := false, tag := "", pkgPath := "", byteOffset := 0 }, { name := "Blocks", type := 27, offset := 1, embedded := false, tag := "", pkgPath := "", byteOffset := 24 }, { name := "Certified", type := 28, offset := 2, embedded := false, tag := "", pkgPath := "", byteOffset := 48 }, { name := "Decided", type := 28, offset := 3, embedded := false, tag := "", pkgPath := "", byteOffset := 72 }]) 4 96 (.agg #[.slice none 0 0, .slice none 0 0, .slice none 0 0, .slice none 0 0]) := ⟨Tryd.underlying30, by kernel_rfl⟩
theorem Tryd.ty31 : Ty Tryd.prog 31 (.int .i64) 1 8 (.int .i64 0) := ⟨Tryd.underlying31, by kernel_rfl⟩
theorem Tryd.ty34 : Ty Tryd.prog 34 (.slice 82) 1 24 (.slice none 0 0) := ⟨Tryd.underlying34, by kernel_rfl⟩
theorem Tryd.ty35 : Ty Tryd.prog 35 (.slice 43) 1 24 (.slice none 0 0) := ⟨Tryd.underlying35, by kernel_rfl⟩
theorem Tryd.ty37 : Ty Tryd.prog 37 (.struct #[{ name := "Meeting", type := 30, offset := 0, embedded := false, tag := "", pkgPath := "", byteOffset := 0 }, { name := "Pays", type := 34, offset := 4, embedded := false, tag := "", pkgPath := "", byteOffset := 96 }, { name := "Codes", type := 26, offset := 5, embedded := false, tag := "", pkgPath := "", byteOffset := 120 }, { name := "Accounts", type := 35, offset := 6, embedded := false, tag := "", pkgPath := "", byteOffset := 144 }]) 7 168 (.agg #[.slice none 0 0, .slice none 0 0, .slice none 0 0, .slice none 0 0, .slice none 0 0, .slice none 0 0, .slice none 0 0]) := ⟨Tryd.underlying37, by kernel_rfl⟩
theorem Tryd.ty43 : Ty Tryd.prog 43 (.struct #[{ name := "N", type := 2, offset := 0, embedded := false, tag := "", pkgPath := "", byteOffset := 0 }, { name := "Serial", type := 3, offset := 1, embedded := false, tag := "", pkgPath := "", byteOffset := 8 }]) 2 16 (.agg #[.int .i64 0, .int .i64 0]) := ⟨Tryd.underlying43, by kernel_rfl⟩
theorem Tryd.ty45 : Ty Tryd.prog 45 (.pointer 53) 1 8 (.pointer none) := ⟨Tryd.underlying45, by kernel_rfl⟩
theorem Tryd.ty47 : Ty Tryd.prog 47 (.struct #[{ name := "Parent", type := 3, offset := 0, embedded := false, tag := "", pkgPath := "", byteOffset := 0 }, { name := "Round", type := 3, offset := 1, embedded := false, tag := "", pkgPath := "", byteOffset := 8 }]) 2 16 (.agg #[.int .i64 0, .int .i64 0]) := ⟨Tryd.underlying47, by kernel_rfl⟩
theorem Tryd.ty48 : Ty Tryd.prog 48 (.slice 22) 1 24 (.slice none 0 0) := ⟨Tryd.underlying48, by kernel_rfl⟩
theorem Tryd.ty49 : Ty Tryd.prog 49 (.slice 90) 1 24 (.slice none 0 0) := ⟨Tryd.underlying49, by kernel_rfl⟩
theorem Tryd.ty50 : Ty Tryd.prog 50 (.map 92 3) 1 8 (.map none) := ⟨Tryd.underlying50, by kernel_rfl⟩
theorem Tryd.ty51 : Ty Tryd.prog 51 (.map 93 3) 1 8 (.map none) := ⟨Tryd.underlying51, by kernel_rfl⟩
theorem Tryd.ty53 : Ty Tryd.prog 53 (.struct #[{ name := "n", type := 3, offset := 0, embedded := false, tag := "", pkgPath := "folkmoot/moot", byteOffset := 0 }, { name := "need", type := 3, offset := 1, embedded := false, tag := "", pkgPath := "folkmoot/moot", byteOffset := 8 }, { name := "liars", type := 22, offset := 2, embedded := false, tag := "", pkgPath := "folkmoot/moot", byteOffset := 16 }, { name := "blocks", type := 27, offset := 3, embedded := false, tag := "", pkgPath := "folkmoot/moot", byteOffset := 24 }, { name := "votes", type := 48, offset := 4, embedded := false, tag := "", pkgPath := "folkmoot/moot", byteOffset := 48 }, { name := "members", type := 49, offset := 5, embedded := false, tag := "", pkgPath := "folkmoot/moot", byteOffset := 72 }, { name := "late", type := 50, offset := 6, embedded := false, tag := "", pkgPath := "folkmoot/moot", byteOffset := 96 }, { name := "gave", type := 51, offset := 7, embedded := false, tag := "", pkgPath := "folkmoot/moot", byteOffset := 104 }]) 8 112 (.agg #[.int .i64 0, .int .i64 0, .int .u32 0, .slice none 0 0, .slice none 0 0, .slice none 0 0, .map none, .map none]) := ⟨Tryd.underlying53, by kernel_rfl⟩
theorem Tryd.ty55 : Ty Tryd.prog 55 (.struct #[{ name := "Kind", type := 3, offset := 0, embedded := false, tag := "", pkgPath := "", byteOffset := 0 }, { name := "Who", type := 3, offset := 1, embedded := false, tag := "", pkgPath := "", byteOffset := 8 }, { name := "Block", type := 3, offset := 2, embedded := false, tag := "", pkgPath := "", byteOffset := 16 }, { name := "Round", type := 3, offset := 3, embedded := false, tag := "", pkgPath := "", byteOffset := 24 }, { name := "High", type := 3, offset := 4, embedded := false, tag := "", pkgPath := "", byteOffset := 32 }]) 5 40 (.agg #[.int .i64 0, .int .i64 0, .int .i64 0, .int .i64 0, .int .i64 0]) := ⟨Tryd.underlying55, by kernel_rfl⟩
theorem Tryd.ty57 : Ty Tryd.prog 57 (.func #[3] #[4] false) 1 8 (.nilFunc) := ⟨Tryd.underlying57, by kernel_rfl⟩
theorem Tryd.ty61 : Ty Tryd.prog 61 (.struct #[{ name := "Meeting", type := 30, offset := 0, embedded := true, tag := "", pkgPath := "", byteOffset := 0 }]) 4 96 (.agg #[.slice none 0 0, .slice none 0 0, .slice none 0 0, .slice none 0 0]) := ⟨Tryd.underlying61, by kernel_rfl⟩
theorem Tryd.ty63 : Ty Tryd.prog 63 (.slice 3) 1 24 (.slice none 0 0) := ⟨Tryd.underlying63, by kernel_rfl⟩
theorem Tryd.ty75 : Ty Tryd.prog 75 (.func #[57] #[] false) 1 8 (.nilFunc) := ⟨Tryd.underlying75, by kernel_rfl⟩
theorem Tryd.ty76 : Ty Tryd.prog 76 (.func #[57] #[] false) 1 8 (.nilFunc) := ⟨Tryd.underlying76, by kernel_rfl⟩
theorem Tryd.ty80 : Ty Tryd.prog 80 (.func #[2] #[4] false) 1 8 (.nilFunc) := ⟨Tryd.underlying80, by kernel_rfl⟩
theorem Tryd.ty82 : Ty Tryd.prog 82 (.struct #[{ name := "From", type := 3, offset := 0, embedded := false, tag := "", pkgPath := "", byteOffset := 0 }, { name := "To", type := 3, offset := 1, embedded := false, tag := "", pkgPath := "", byteOffset := 8 }, { name := "Serial", type := 3, offset := 2, embedded := false, tag := "", pkgPath := "", byteOffset := 16 }, { name := "N", type := 2, offset := 3, embedded := false, tag := "", pkgPath := "", byteOffset := 24 }]) 4 32 (.agg #[.int .i64 0, .int .i64 0, .int .i64 0, .int .i64 0]) := ⟨Tryd.underlying82, by kernel_rfl⟩
theorem Tryd.ty88 : Ty Tryd.prog 88 (.pointer 90) 1 8 (.pointer none) := ⟨Tryd.underlying88, by kernel_rfl⟩
theorem Tryd.ty90 : Ty Tryd.prog 90 (.struct #[{ name := "voted", type := 3, offset := 0, embedded := false, tag := "", pkgPath := "folkmoot/moot", byteOffset := 0 }, { name := "knows", type := 3, offset := 1, embedded := false, tag := "", pkgPath := "folkmoot/moot", byteOffset := 8 }]) 2 16 (.agg #[.int .i64 0, .int .i64 0]) := ⟨Tryd.underlying90, by kernel_rfl⟩
theorem Tryd.ty92 : Ty Tryd.prog 92 (.struct #[{ name := "round", type := 3, offset := 0, embedded := false, tag := "", pkgPath := "folkmoot/moot", byteOffset := 0 }, { name := "who", type := 3, offset := 1, embedded := false, tag := "", pkgPath := "folkmoot/moot", byteOffset := 8 }, { name := "high", type := 3, offset := 2, embedded := false, tag := "", pkgPath := "folkmoot/moot", byteOffset := 16 }]) 3 24 (.agg #[.int .i64 0, .int .i64 0, .int .i64 0]) := ⟨Tryd.underlying92, by kernel_rfl⟩
theorem Tryd.ty93 : Ty Tryd.prog 93 (.array 2 3) 2 16 (.agg #[.int .i64 0, .int .i64 0]) := ⟨Tryd.underlying93, by kernel_rfl⟩
theorem Tryd.ty94 : Ty Tryd.prog 94 (.int .u64) 1 8 (.int .u64 0) := ⟨Tryd.underlying94, by kernel_rfl⟩
theorem Tryd.ty98 : Ty Tryd.prog 98 (.struct #[{ name := "code", type := 31, offset := 0, embedded := false, tag := "", pkgPath := "folkmoot/ledger", byteOffset := 0 }]) 1 8 (.agg #[.int .i64 0]) := ⟨Tryd.underlying98, by kernel_rfl⟩
theorem Tryd.ty102 : Ty Tryd.prog 102 (.pointer 43) 1 8 (.pointer none) := ⟨Tryd.underlying102, by kernel_rfl⟩
theorem Tryd.mixed : Tryd.prog.follows .mixedOrders = true := by kernel_rfl
theorem Tryd.fn3 : Fnc Tryd.prog 3 := fun args w => by go_simp
theorem Tryd.fn4 : Fnc Tryd.prog 4 := fun args w => by go_simp
theorem Tryd.fn5 : Fnc Tryd.prog 5 := fun args w => by go_simp
theorem Tryd.fn6 : Fnc Tryd.prog 6 := fun args w => by go_simp
theorem Tryd.fn7 : Fnc Tryd.prog 7 := fun args w => by go_simp
theorem Tryd.fn8 : Fnc Tryd.prog 8 := fun args w => by go_simp
theorem Tryd.fn9 : Fnc Tryd.prog 9 := fun args w => by go_simp
theorem Tryd.fn10 : Fnc Tryd.prog 10 := fun args w => by go_simp
theorem Tryd.fn11 : Fnc Tryd.prog 11 := fun args w => by go_simp
theorem Tryd.fn12 : Fnc Tryd.prog 12 := fun args w => by go_simp
theorem Tryd.fn13 : Fnc Tryd.prog 13 := fun args w => by go_simp
theorem Tryd.fn14 : Fnc Tryd.prog 14 := fun args w => by go_simp
theorem Tryd.fn15 : Fnc Tryd.prog 15 := fun args w => by go_simp
theorem Tryd.fn16 : Fnc Tryd.prog 16 := fun args w => by go_simp
theorem Tryd.fn17 : Fnc Tryd.prog 17 := fun args w => by go_simp
theorem Tryd.fn18 : Fnc Tryd.prog 18 := fun args w => by go_simp
theorem Tryd.fn19 : Fnc Tryd.prog 19 := fun args w => by go_simp
theorem Tryd.fn20 : Fnc Tryd.prog 20 := fun args w => by go_simp
theorem Tryd.fn21 : Fnc Tryd.prog 21 := fun args w => by go_simp
theorem Tryd.fn22 : Fnc Tryd.prog 22 := fun args w => by go_simp
theorem Tryd.fn23 : Fnc Tryd.prog 23 := fun args w => by go_simp
theorem Tryd.fn24 : Fnc Tryd.prog 24 := fun args w => by go_simp
theorem Tryd.fn25 : Fnc Tryd.prog 25 := fun args w => by go_simp
theorem Tryd.fn26 : Fnc Tryd.prog 26 := fun args w => by go_simp
theorem Tryd.fn27 : Fnc Tryd.prog 27 := fun args w => by go_simp
theorem Tryd.fn28 : Fnc Tryd.prog 28 := fun args w => by go_simp
theorem Tryd.fn29 : Fnc Tryd.prog 29 := fun args w => by go_simp
theorem Tryd.fn30 : Fnc Tryd.prog 30 := fun args w => by go_simp
theorem Tryd.fn31 : Fnc Tryd.prog 31 := fun args w => by go_simp
theorem Tryd.fn32 : Fnc Tryd.prog 32 := fun args w => by go_simp
theorem Tryd.fn33 : Fnc Tryd.prog 33 := fun args w => by go_simp
theorem Tryd.fn34 : Fnc Tryd.prog 34 := fun args w => by go_simp
theorem Tryd.fn35 : Fnc Tryd.prog 35 := fun args w => by go_simp
theorem Tryd.fn37 : Fnc Tryd.prog 37 := fun args w => by go_simp
theorem Tryd.fn38 : Fnc Tryd.prog 38 := fun args w => by go_simp
theorem Tryd.fn39 : Fnc Tryd.prog 39 := fun args w => by go_simp
end Go.Proofs.YtfeeociajllbhaaDoor
