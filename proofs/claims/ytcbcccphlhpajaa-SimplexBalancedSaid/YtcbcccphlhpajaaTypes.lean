/- Facts on the types of this seat's program, as the walk asks for them. -/
import Derived.Test.YtcbcccphlhpajaaPSLib
import Derived.Test.YtcbcccphlhpajaaProg
import Derived.KernelRfl
namespace Go.Proofs.Ytcbcccphlhpajaa
open Go Go.PS Go.Proofs
theorem hmix : Try.prog.follows .mixedOrders = true := by kernel_rfl
@[go_sem] theorem ty3 : tyi Try.prog 3 = ⟨1, false, [.int .i64 0], 0, 0, 5, [], 8, true, true, false, [], false⟩ := by kernel_rfl
@[go_sem] theorem sz3 : Try.prog.cellsOf 3 = 1 := by kernel_rfl
@[go_sem] theorem ty4 : tyi Try.prog 4 = ⟨1, false, [.bool false], 0, 0, 6, [], 1, true, true, false, [], false⟩ := by kernel_rfl
@[go_sem] theorem sz4 : Try.prog.cellsOf 4 = 1 := by kernel_rfl
@[go_sem] theorem ty22 : tyi Try.prog 22 = ⟨1, false, [.slice none 0 0], 44, 0, 1, [], 24, true, true, false, [], false⟩ := by kernel_rfl
@[go_sem] theorem sz22 : Try.prog.cellsOf 22 = 1 := by kernel_rfl
@[go_sem] theorem ty24 : tyi Try.prog 24 = ⟨2, true, [.int .i64 0, .slice none 0 0], 0, 0, 3, [(0, 3), (1, 22)], 32, true, true, false, [(0, 1), (1, 1)], true⟩ := by kernel_rfl
@[go_sem] theorem sz24 : Try.prog.cellsOf 24 = 2 := by kernel_rfl
@[go_sem] theorem ty25 : tyi Try.prog 25 = ⟨1, false, [.slice none 0 0], 3, 0, 1, [], 24, true, true, false, [], false⟩ := by kernel_rfl
@[go_sem] theorem sz25 : Try.prog.cellsOf 25 = 1 := by kernel_rfl
@[go_sem] theorem ty32 : tyi Try.prog 32 = ⟨1, false, [.int .i64 0], 0, 0, 5, [], 8, true, true, false, [], false⟩ := by kernel_rfl
@[go_sem] theorem sz32 : Try.prog.cellsOf 32 = 1 := by kernel_rfl
@[go_sem] theorem ty44 : tyi Try.prog 44 = ⟨4, true, [.int .i64 0, .int .i64 0, .int .i64 0, .int .i64 0], 0, 0, 3, [(0, 3), (1, 3), (2, 3), (3, 3)], 32, true, true, true, [(0, 1), (1, 1), (2, 1), (3, 1)], true⟩ := by kernel_rfl
@[go_sem] theorem sz44 : Try.prog.cellsOf 44 = 4 := by kernel_rfl
@[go_sem] theorem ty47 : tyi Try.prog 47 = ⟨3, true, [.int .i64 0, .slice none 0 0, .slice none 0 0], 0, 0, 3, [(0, 24), (2, 25)], 56, true, true, false, [(0, 2), (2, 1)], true⟩ := by kernel_rfl
@[go_sem] theorem sz47 : Try.prog.cellsOf 47 = 3 := by kernel_rfl
@[go_sem] theorem ty48 : tyi Try.prog 48 = ⟨1, false, [.slice none 0 0], 55, 0, 1, [], 24, true, true, false, [], false⟩ := by kernel_rfl
@[go_sem] theorem sz48 : Try.prog.cellsOf 48 = 1 := by kernel_rfl
@[go_sem] theorem ty53 : tyi Try.prog 53 = ⟨4, true, [.int .i64 0, .int .i64 0, .int .i64 0, .bool false], 0, 0, 3, [(0, 3), (1, 3), (2, 3), (3, 4)], 32, true, true, false, [(0, 1), (1, 1), (2, 1), (3, 1)], true⟩ := by kernel_rfl
@[go_sem] theorem sz53 : Try.prog.cellsOf 53 = 4 := by kernel_rfl
@[go_sem] theorem ty55 : tyi Try.prog 55 = ⟨7, true, [.int .i64 0, .int .i64 0, .int .i64 0, .int .i64 0, .int .i64 0, .bool false, .bool false], 0, 0, 3, [(0, 3), (1, 3), (2, 53), (6, 4)], 56, true, true, false, [(0, 1), (1, 1), (2, 4), (6, 1)], true⟩ := by kernel_rfl
@[go_sem] theorem sz55 : Try.prog.cellsOf 55 = 7 := by kernel_rfl
@[go_sem] theorem ty57 : tyi Try.prog 57 = ⟨1, false, [.slice none 0 0], 60, 0, 1, [], 24, true, true, false, [], false⟩ := by kernel_rfl
@[go_sem] theorem sz57 : Try.prog.cellsOf 57 = 1 := by kernel_rfl
@[go_sem] theorem ty59 : tyi Try.prog 59 = ⟨1, false, [.slice none 0 0], 4, 0, 1, [], 24, true, true, false, [], false⟩ := by kernel_rfl
@[go_sem] theorem sz59 : Try.prog.cellsOf 59 = 1 := by kernel_rfl
@[go_sem] theorem ty60 : tyi Try.prog 60 = ⟨1, false, [.slice none 0 0], 53, 0, 1, [], 24, true, true, false, [], false⟩ := by kernel_rfl
@[go_sem] theorem sz60 : Try.prog.cellsOf 60 = 1 := by kernel_rfl

end Go.Proofs.Ytcbcccphlhpajaa
