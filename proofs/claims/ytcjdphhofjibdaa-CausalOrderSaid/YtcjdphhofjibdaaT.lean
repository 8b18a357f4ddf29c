/- The types' rows of the table, and the functions that may be called. No condition. -/
import Derived.Test.YtcjdphhofjibdaaProg
import Derived.Test.YtcjdphhofjibdaaX4
import Derived.Deep.QuietTactic
namespace Go.Proofs.Ytcjdphhofjibdaa
open Go.RowKit

theorem Try.ty1 : Ty Try.prog 1 (.func #[] #[] false) 1 8 (.nilFunc) := ⟨Try.underlying1, by kernel_rfl⟩
theorem Try.ty2 : Ty Try.prog 2 (.int .i64) 1 8 (.int .i64 0) := ⟨Try.underlying2, by kernel_rfl⟩
theorem Try.ty3 : Ty Try.prog 3 (.int .i64) 1 8 (.int .i64 0) := ⟨Try.underlying3, by kernel_rfl⟩
theorem Try.ty4 : Ty Try.prog 4 (.bool) 1 1 (.bool false) := ⟨Try.underlying4, by kernel_rfl⟩
theorem Try.ty5 : Ty Try.prog 5 (.int .u8) 1 1 (.int .u8 0) := ⟨Try.underlying5, by kernel_rfl⟩
theorem Try.ty22 : Ty Try.prog 22 (.slice 35) 1 24 (.slice none 0 0) := ⟨Try.underlying22, by kernel_rfl⟩
theorem Try.ty23 : Ty Try.prog 23 (.slice 27) 1 24 (.slice none 0 0) := ⟨Try.underlying23, by kernel_rfl⟩
theorem Try.ty24 : Ty Try.prog 24 (.slice 30) 1 24 (.slice none 0 0) := ⟨Try.underlying24, by kernel_rfl⟩
theorem Try.ty26 : Ty Try.prog 26 (.struct #[{ name := "Codes", type := 23, offset := 0, embedded := false, tag := "", pkgPath := "", byteOffset := 0 }, { name := "Lists", type := 24, offset := 1, embedded := false, tag := "", pkgPath := "", byteOffset := 24 }]) 2 48 (.agg #[.slice none 0 0, .slice none 0 0]) := ⟨Try.underlying26, by kernel_rfl⟩
theorem Try.ty27 : Ty Try.prog 27 (.int .i64) 1 8 (.int .i64 0) := ⟨Try.underlying27, by kernel_rfl⟩
theorem Try.ty30 : Ty Try.prog 30 (.slice 3) 1 24 (.slice none 0 0) := ⟨Try.underlying30, by kernel_rfl⟩
theorem Try.ty35 : Ty Try.prog 35 (.struct #[{ name := "Kind", type := 3, offset := 0, embedded := false, tag := "", pkgPath := "", byteOffset := 0 }, { name := "Who", type := 3, offset := 1, embedded := false, tag := "", pkgPath := "", byteOffset := 8 }, { name := "Msg", type := 3, offset := 2, embedded := false, tag := "", pkgPath := "", byteOffset := 16 }]) 3 24 (.agg #[.int .i64 0, .int .i64 0, .int .i64 0]) := ⟨Try.underlying35, by kernel_rfl⟩
theorem Try.ty41 : Ty Try.prog 41 (.pointer 45) 1 8 (.pointer none) := ⟨Try.underlying41, by kernel_rfl⟩
theorem Try.ty42 : Ty Try.prog 42 (.slice 53) 1 24 (.slice none 0 0) := ⟨Try.underlying42, by kernel_rfl⟩
theorem Try.ty43 : Ty Try.prog 43 (.slice 46) 1 24 (.slice none 0 0) := ⟨Try.underlying43, by kernel_rfl⟩
theorem Try.ty45 : Ty Try.prog 45 (.struct #[{ name := "all", type := 42, offset := 0, embedded := false, tag := "", pkgPath := "folkmoot/causal", byteOffset := 0 }, { name := "procs", type := 43, offset := 1, embedded := false, tag := "", pkgPath := "folkmoot/causal", byteOffset := 24 }]) 2 48 (.agg #[.slice none 0 0, .slice none 0 0]) := ⟨Try.underlying45, by kernel_rfl⟩
theorem Try.ty46 : Ty Try.prog 46 (.pointer 49) 1 8 (.pointer none) := ⟨Try.underlying46, by kernel_rfl⟩
theorem Try.ty47 : Ty Try.prog 47 (.map 3 3) 1 8 (.map none) := ⟨Try.underlying47, by kernel_rfl⟩
theorem Try.ty49 : Ty Try.prog 49 (.struct #[{ name := "list", type := 30, offset := 0, embedded := false, tag := "", pkgPath := "folkmoot/causal", byteOffset := 0 }, { name := "count", type := 30, offset := 1, embedded := false, tag := "", pkgPath := "folkmoot/causal", byteOffset := 24 }, { name := "come", type := 47, offset := 2, embedded := false, tag := "", pkgPath := "folkmoot/causal", byteOffset := 48 }, { name := "waits", type := 30, offset := 3, embedded := false, tag := "", pkgPath := "folkmoot/causal", byteOffset := 56 }]) 4 80 (.agg #[.slice none 0 0, .slice none 0 0, .map none, .slice none 0 0]) := ⟨Try.underlying49, by kernel_rfl⟩
theorem Try.ty53 : Ty Try.prog 53 (.struct #[{ name := "from", type := 3, offset := 0, embedded := false, tag := "", pkgPath := "folkmoot/causal", byteOffset := 0 }, { name := "need", type := 30, offset := 1, embedded := false, tag := "", pkgPath := "folkmoot/causal", byteOffset := 8 }]) 2 32 (.agg #[.int .i64 0, .slice none 0 0]) := ⟨Try.underlying53, by kernel_rfl⟩
theorem Try.ty59 : Ty Try.prog 59 (.int .u64) 1 8 (.int .u64 0) := ⟨Try.underlying59, by kernel_rfl⟩
theorem Try.ty61 : Ty Try.prog 61 (.func #[3] #[4] false) 1 8 (.nilFunc) := ⟨Try.underlying61, by kernel_rfl⟩
theorem Try.mixed : Try.prog.follows .mixedOrders = true := by kernel_rfl
theorem Try.fn3 : Fnc Try.prog 3 := fun args w => by go_simp
theorem Try.fn4 : Fnc Try.prog 4 := fun args w => by go_simp
theorem Try.fn5 : Fnc Try.prog 5 := fun args w => by go_simp
theorem Try.fn6 : Fnc Try.prog 6 := fun args w => by go_simp
theorem Try.fn7 : Fnc Try.prog 7 := fun args w => by go_simp
theorem Try.fn8 : Fnc Try.prog 8 := fun args w => by go_simp
theorem Try.fn9 : Fnc Try.prog 9 := fun args w => by go_simp
theorem Try.fn10 : Fnc Try.prog 10 := fun args w => by go_simp
theorem Try.fn11 : Fnc Try.prog 11 := fun args w => by go_simp
theorem Try.fn12 : Fnc Try.prog 12 := fun args w => by go_simp
theorem Try.fn13 : Fnc Try.prog 13 := fun args w => by go_simp
theorem Try.fn14 : Fnc Try.prog 14 := fun args w => by go_simp
theorem Try.fn15 : Fnc Try.prog 15 := fun args w => by go_simp
theorem Try.fn16 : Fnc Try.prog 16 := fun args w => by go_simp
theorem Try.fn17 : Fnc Try.prog 17 := fun args w => by go_simp
theorem Try.fn18 : Fnc Try.prog 18 := fun args w => by go_simp
theorem Try.fn19 : Fnc Try.prog 19 := fun args w => by go_simp
theorem Try.fn20 : Fnc Try.prog 20 := fun args w => by go_simp
theorem Try.fn21 : Fnc Try.prog 21 := fun args w => by go_simp
theorem Try.fn22 : Fnc Try.prog 22 := fun args w => by go_simp
theorem Try.fn24 : Fnc Try.prog 24 := fun args w => by go_simp
theorem Try.fn25 : Fnc Try.prog 25 := fun args w => by go_simp
theorem Try.fn26 : Fnc Try.prog 26 := fun args w => by go_simp
theorem Try.fn27 : Fnc Try.prog 27 := fun args w => by go_simp
theorem Try.fn28 : Fnc Try.prog 28 := fun args w => by go_simp
theorem Try.fn29 : Fnc Try.prog 29 := fun args w => by go_simp
theorem Try.fn30 : Fnc Try.prog 30 := fun args w => by go_simp
theorem Try.fn31 : Fnc Try.prog 31 := fun args w => by go_simp
end Go.Proofs.Ytcjdphhofjibdaa
