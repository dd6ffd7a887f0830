/- Facts on the types of this seat's program, as the walk asks for them. -/
import Derived.Test.YtpmmikkojpcogaaPSLib
import Derived.Test.YtpmmikkojpcogaaProg
import Derived.KernelRfl
namespace Go.Proofs.Ytpmmikkojpcogaa
open Go Go.PS Go.Proofs
theorem hmix : Try.prog.follows .mixedOrders = true := by kernel_rfl
@[go_sem] theorem ty3 : tyi Try.prog 3 = ⟨1, false, [.int .i64 0], 0, 0, 5, [], 8, true, true, false, [], false⟩ := by kernel_rfl
@[go_sem] theorem sz3 : Try.prog.cellsOf 3 = 1 := by kernel_rfl
@[go_sem] theorem ty4 : tyi Try.prog 4 = ⟨1, false, [.bool false], 0, 0, 6, [], 1, true, true, false, [], false⟩ := by kernel_rfl
@[go_sem] theorem sz4 : Try.prog.cellsOf 4 = 1 := by kernel_rfl
@[go_sem] theorem ty22 : tyi Try.prog 22 = ⟨1, false, [.slice none 0 0], 39, 0, 1, [], 24, true, true, false, [], false⟩ := by kernel_rfl
@[go_sem] theorem sz22 : Try.prog.cellsOf 22 = 1 := by kernel_rfl
@[go_sem] theorem ty24 : tyi Try.prog 24 = ⟨2, true, [.int .i64 0, .slice none 0 0], 0, 0, 3, [(0, 3), (1, 22)], 32, true, true, false, [(0, 1), (1, 1)], true⟩ := by kernel_rfl
@[go_sem] theorem sz24 : Try.prog.cellsOf 24 = 2 := by kernel_rfl
@[go_sem] theorem ty25 : tyi Try.prog 25 = ⟨1, false, [.slice none 0 0], 3, 0, 1, [], 24, true, true, false, [], false⟩ := by kernel_rfl
@[go_sem] theorem sz25 : Try.prog.cellsOf 25 = 1 := by kernel_rfl
@[go_sem] theorem ty26 : tyi Try.prog 26 = ⟨1, false, [.slice none 0 0], 25, 0, 1, [], 24, true, true, false, [], false⟩ := by kernel_rfl
@[go_sem] theorem sz26 : Try.prog.cellsOf 26 = 1 := by kernel_rfl
@[go_sem] theorem ty28 : tyi Try.prog 28 = ⟨4, true, [.int .i64 0, .slice none 0 0, .slice none 0 0, .slice none 0 0], 0, 0, 3, [(0, 3), (1, 26), (2, 22), (3, 26)], 80, true, true, false, [(0, 1), (1, 1), (2, 1), (3, 1)], true⟩ := by kernel_rfl
@[go_sem] theorem sz28 : Try.prog.cellsOf 28 = 4 := by kernel_rfl
@[go_sem] theorem ty29 : tyi Try.prog 29 = ⟨1, false, [.int .i64 0], 0, 0, 5, [], 8, true, true, false, [], false⟩ := by kernel_rfl
@[go_sem] theorem sz29 : Try.prog.cellsOf 29 = 1 := by kernel_rfl
@[go_sem] theorem ty39 : tyi Try.prog 39 = ⟨2, true, [.int .i64 0, .int .i64 0], 0, 0, 3, [(0, 3), (1, 3)], 16, true, true, true, [(0, 1), (1, 1)], true⟩ := by kernel_rfl
@[go_sem] theorem sz39 : Try.prog.cellsOf 39 = 2 := by kernel_rfl
@[go_sem] theorem ty74 : tyi Try.prog 74 = ⟨1, false, [.map none], 0, 0, 0, [], 8, true, true, false, [], false⟩ := by kernel_rfl
@[go_sem] theorem sz74 : Try.prog.cellsOf 74 = 1 := by kernel_rfl
@[go_sem] theorem ty84 : tyi Try.prog 84 = ⟨1, false, [.int .u64 0], 0, 0, 5, [], 8, true, true, false, [], false⟩ := by kernel_rfl
@[go_sem] theorem sz84 : Try.prog.cellsOf 84 = 1 := by kernel_rfl
@[go_sem] theorem ty86 : tyi Try.prog 86 = ⟨1, false, [.int .i64 0], 0, 0, 5, [], 8, true, true, false, [], false⟩ := by kernel_rfl
@[go_sem] theorem sz86 : Try.prog.cellsOf 86 = 1 := by kernel_rfl
@[go_sem] theorem ty97 : tyi Try.prog 97 = ⟨1, false, [.int .u64 0], 0, 0, 5, [], 8, true, true, false, [], false⟩ := by kernel_rfl
@[go_sem] theorem sz97 : Try.prog.cellsOf 97 = 1 := by kernel_rfl

end Go.Proofs.Ytpmmikkojpcogaa
