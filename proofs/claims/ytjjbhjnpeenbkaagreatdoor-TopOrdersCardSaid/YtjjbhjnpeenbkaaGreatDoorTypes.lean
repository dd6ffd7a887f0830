/- Facts on the types of this seat's program, as the walk asks for them. -/
import Derived.Test.YtjjbhjnpeenbkaaGreatDoorPSFam
import Derived.Test.YtjjbhjnpeenbkaaGreatDoorPSMac
import Derived.Test.YtjjbhjnpeenbkaaGreatDoorProg
import Derived.KernelRfl
import Derived.Shelf.Sort.Plain
import Derived.Shelf.Slices.In.SortNone
import Derived.Sort.OwnSortedInts
import Derived.Shelf.Lay
import Derived.Ground.NamesProg
import Derived.RangeFuncBox
import Derived.RangeFuncLeaves
import Derived.Shelf.Abstract
import Derived.WalkKit
import Derived.OwnWalkIn
import Derived.TacticsInMore
import Derived.LoopNIn
import Derived.LoopIn
import Derived.Maps.AppendAt
set_option linter.unusedSimpArgs false
set_option linter.unusedVariables false
set_option maxHeartbeats 16000000
namespace Go.Proofs.YtjjbhjnpeenbkaaGreatDoor
open Go Go.PS Go.Proofs
theorem Zbr : Tryz.prog.follows .mixedOrders = true := by kernel_rfl
theorem wR {B X : Nat → Prop} {w0 : W0} {n : Nat} {Q : Exit → St → Prop} {S : St} {id : Nat} {ops : Array Oper} {draw : Bool} (h : Zab Tryz.prog (fun _ => false) ops.toList ops.toList S [] fun S' fs => Zhm n ops draw fs.reverse = true ∧ Q .normal S') : PW Tryz.prog B X w0 n (.region id ops draw) Q S := Zci _ Zbr h
@[go_sem] theorem un3 : Tryz.prog.underlying 3 = some (.int .i64) := by kernel_rfl
@[go_sem] theorem un5 : Tryz.prog.underlying 5 = some (.int .u8) := by kernel_rfl
@[go_sem] theorem un9 : Tryz.prog.underlying 9 = some .string := by kernel_rfl
@[go_sem] theorem ZAM : Tryz.prog.underlying 168 = some (.int .u64) := by kernel_rfl
@[go_sem] theorem ZCn : Tryz.prog.underlying 230 = some (.slice 5) := by kernel_rfl
@[go_sem] theorem ZBL : Tryz.prog.underlying 274 = some (.int .u32) := by kernel_rfl
@[go_sem] theorem ZCr : Tryz.prog.underlying 276 = some (.int .u64) := by kernel_rfl
@[go_sem] theorem ty3 : tyi Tryz.prog 3 = ⟨1, false, [.int .i64 0], 0, 0, 5, [], 8, true, true, false, [], false, false⟩ := by kernel_rfl
@[go_sem] theorem sz3 : Tryz.prog.cellsOf 3 = 1 := by kernel_rfl
@[go_sem] theorem ty4 : tyi Tryz.prog 4 = ⟨1, false, [.bool false], 0, 0, 6, [], 1, true, true, false, [], false, false⟩ := by kernel_rfl
@[go_sem] theorem sz4 : Tryz.prog.cellsOf 4 = 1 := by kernel_rfl
@[go_sem] theorem ty5 : tyi Tryz.prog 5 = ⟨1, false, [.int .u8 0], 0, 0, 5, [], 1, true, true, false, [], false, true⟩ := by kernel_rfl
@[go_sem] theorem sz5 : Tryz.prog.cellsOf 5 = 1 := by kernel_rfl
@[go_sem] theorem ty9 : tyi Tryz.prog 9 = ⟨1, false, [.string ⟨#[]⟩], 0, 0, 8, [], 16, true, true, false, [], false, false⟩ := by kernel_rfl
@[go_sem] theorem sz9 : Tryz.prog.cellsOf 9 = 1 := by kernel_rfl
@[go_sem] theorem ZCs : tyi Tryz.prog 22 = ⟨1, false, [.slice none 0 0], 66, 0, 1, [], 24, true, true, false, [], false, false⟩ := by kernel_rfl
@[go_sem] theorem ZBD : Tryz.prog.cellsOf 22 = 1 := by kernel_rfl
@[go_sem] theorem ZBX : tyi Tryz.prog 23 = ⟨1, false, [.slice none 0 0], 61, 0, 1, [], 24, true, true, false, [], false, false⟩ := by kernel_rfl
@[go_sem] theorem ZCm : Tryz.prog.cellsOf 23 = 1 := by kernel_rfl
@[go_sem] theorem ZAC : tyi Tryz.prog 24 = ⟨1, false, [.slice none 0 0], 94, 0, 1, [], 24, true, true, false, [], false, false⟩ := by kernel_rfl
@[go_sem] theorem ZCv : Tryz.prog.cellsOf 24 = 1 := by kernel_rfl
@[go_sem] theorem Zue : tyi Tryz.prog 26 = ⟨5, true, [.string ⟨#[]⟩, .bool false, .slice none 0 0, .slice none 0 0, .slice none 0 0], 0, 0, 3, [(0, 9), (1, 4), (2, 22), (3, 23), (4, 24)], 96, true, true, false, [(0, 1), (1, 1), (2, 1), (3, 1), (4, 1)], true, false⟩ := by kernel_rfl
@[go_sem] theorem ZA8 : Tryz.prog.cellsOf 26 = 5 := by kernel_rfl
@[go_sem] theorem ZxB : tyi Tryz.prog 28 = ⟨5, true, [.int .i64 0, .int .i64 0, .int .i64 0, .int .i64 0, .int .i64 0], 0, 0, 3, [(0, 3), (1, 3), (2, 3), (3, 3), (4, 3)], 40, true, true, true, [(0, 1), (1, 1), (2, 1), (3, 1), (4, 1)], true, false⟩ := by kernel_rfl
@[go_sem] theorem ZBW : Tryz.prog.cellsOf 28 = 5 := by kernel_rfl
@[go_sem] theorem ZAp : tyi Tryz.prog 31 = ⟨1, false, [.slice none 0 0], 38, 0, 1, [], 24, true, true, false, [], false, false⟩ := by kernel_rfl
@[go_sem] theorem ZCA : Tryz.prog.cellsOf 31 = 1 := by kernel_rfl
@[go_sem] theorem ZB5 : tyi Tryz.prog 32 = ⟨1, false, [.slice none 0 0], 90, 0, 1, [], 24, true, true, false, [], false, false⟩ := by kernel_rfl
@[go_sem] theorem ZAR : Tryz.prog.cellsOf 32 = 1 := by kernel_rfl
@[go_sem] theorem ZCG : tyi Tryz.prog 34 = ⟨4, true, [.int .i64 0, .slice none 0 0, .slice none 0 0, .slice none 0 0], 0, 0, 3, [(0, 3), (1, 31), (2, 32), (3, 31)], 80, true, true, false, [(0, 1), (1, 1), (2, 1), (3, 1)], true, false⟩ := by kernel_rfl
@[go_sem] theorem ZBk : Tryz.prog.cellsOf 34 = 4 := by kernel_rfl
@[go_sem] theorem ZAn : tyi Tryz.prog 35 = ⟨1, false, [.int .i64 0], 0, 0, 5, [], 8, true, true, false, [], false, false⟩ := by kernel_rfl
@[go_sem] theorem ZCb : Tryz.prog.cellsOf 35 = 1 := by kernel_rfl
@[go_sem] theorem ZBQ : tyi Tryz.prog 38 = ⟨1, false, [.slice none 0 0], 3, 0, 1, [], 24, true, true, false, [], false, false⟩ := by kernel_rfl
@[go_sem] theorem ZA3 : Tryz.prog.cellsOf 38 = 1 := by kernel_rfl
@[go_sem] theorem ZA1 : tyi Tryz.prog 54 = ⟨2, true, [.int .i64 0, .slice none 0 0], 0, 0, 3, [(0, 3), (1, 32)], 32, true, true, false, [(0, 1), (1, 1)], true, false⟩ := by kernel_rfl
@[go_sem] theorem ZBx : Tryz.prog.cellsOf 54 = 2 := by kernel_rfl
@[go_sem] theorem ZsA : tyi Tryz.prog 61 = ⟨7, true, [.int .i64 0, .int .i64 0, .int .i64 0, .int .i64 0, .string ⟨#[]⟩, .int .i64 0, .int .i64 0], 0, 0, 3, [(0, 3), (1, 3), (2, 3), (3, 3), (4, 9), (5, 3), (6, 3)], 64, true, true, false, [(0, 1), (1, 1), (2, 1), (3, 1), (4, 1), (5, 1), (6, 1)], true, false⟩ := by kernel_rfl
@[go_sem] theorem ZBV : Tryz.prog.cellsOf 61 = 7 := by kernel_rfl
@[go_sem] theorem ZAq : tyi Tryz.prog 64 = ⟨1, false, [.slice none 0 0], 92, 0, 1, [], 24, true, true, false, [], false, false⟩ := by kernel_rfl
@[go_sem] theorem ZAV : Tryz.prog.cellsOf 64 = 1 := by kernel_rfl
@[go_sem] theorem ZvR : tyi Tryz.prog 66 = ⟨6, true, [.string ⟨#[]⟩, .string ⟨#[]⟩, .int .i64 0, .int .i64 0, .int .i64 0, .slice none 0 0], 0, 0, 3, [(0, 9), (1, 9), (2, 3), (3, 3), (4, 3), (5, 64)], 80, true, true, false, [(0, 1), (1, 1), (2, 1), (3, 1), (4, 1), (5, 1)], true, false⟩ := by kernel_rfl
@[go_sem] theorem ZCC : Tryz.prog.cellsOf 66 = 6 := by kernel_rfl
@[go_sem] theorem ZBP : tyi Tryz.prog 74 = ⟨1, false, [.slice none 0 0], 142, 0, 1, [], 24, true, true, false, [], false, false⟩ := by kernel_rfl
@[go_sem] theorem ZBY : Tryz.prog.cellsOf 74 = 1 := by kernel_rfl
@[go_sem] theorem ZA2 : tyi Tryz.prog 76 = ⟨2, true, [.int .i64 0, .slice none 0 0], 0, 0, 3, [(0, 3), (1, 74)], 32, true, true, false, [(0, 1), (1, 1)], true, false⟩ := by kernel_rfl
@[go_sem] theorem ZBM : Tryz.prog.cellsOf 76 = 2 := by kernel_rfl
@[go_sem] theorem ZAK : tyi Tryz.prog 90 = ⟨2, true, [.int .i64 0, .int .i64 0], 0, 0, 3, [(0, 3), (1, 3)], 16, true, true, true, [(0, 1), (1, 1)], true, false⟩ := by kernel_rfl
@[go_sem] theorem ZCk : Tryz.prog.cellsOf 90 = 2 := by kernel_rfl
@[go_sem] theorem ZuS : tyi Tryz.prog 92 = ⟨2, true, [.string ⟨#[]⟩, .int .i64 0], 0, 0, 3, [(0, 9), (1, 3)], 24, true, true, false, [(0, 1), (1, 1)], true, false⟩ := by kernel_rfl
@[go_sem] theorem ZCE : Tryz.prog.cellsOf 92 = 2 := by kernel_rfl
@[go_sem] theorem ZsR : tyi Tryz.prog 94 = ⟨2, true, [.string ⟨#[]⟩, .int .i64 0], 0, 0, 3, [(0, 9), (1, 3)], 24, true, true, false, [(0, 1), (1, 1)], true, false⟩ := by kernel_rfl
@[go_sem] theorem ZB9 : Tryz.prog.cellsOf 94 = 2 := by kernel_rfl
@[go_sem] theorem ZAO : tyi Tryz.prog 99 = ⟨3, true, [.int .i64 0, .slice none 0 0, .slice none 0 0], 0, 0, 3, [(0, 54), (2, 38)], 56, true, true, false, [(0, 2), (2, 1)], true, false⟩ := by kernel_rfl
@[go_sem] theorem ZBh : Tryz.prog.cellsOf 99 = 3 := by kernel_rfl
@[go_sem] theorem ZA0 : tyi Tryz.prog 113 = ⟨1, false, [.map none], 0, 0, 7, [], 8, true, true, false, [], false, false⟩ := by kernel_rfl
@[go_sem] theorem ZBR : Tryz.prog.cellsOf 113 = 1 := by kernel_rfl
@[go_sem] theorem ZAX : tyi Tryz.prog 142 = ⟨4, true, [.int .i64 0, .int .i64 0, .int .i64 0, .int .i64 0], 0, 0, 3, [(0, 3), (1, 3), (2, 3), (3, 3)], 32, true, true, true, [(0, 1), (1, 1), (2, 1), (3, 1)], true, false⟩ := by kernel_rfl
@[go_sem] theorem ZBI : Tryz.prog.cellsOf 142 = 4 := by kernel_rfl
@[go_sem] theorem ZAz : tyi Tryz.prog 168 = ⟨1, false, [.int .u64 0], 0, 0, 5, [], 8, true, true, false, [], false, false⟩ := by kernel_rfl
@[go_sem] theorem ZBl : Tryz.prog.cellsOf 168 = 1 := by kernel_rfl
@[go_sem] theorem ZAv : tyi Tryz.prog 198 = ⟨3, true, [.int .i64 0, .slice none 0 0, .slice none 0 0], 0, 0, 3, [(0, 76), (2, 38)], 56, true, true, false, [(0, 2), (2, 1)], true, false⟩ := by kernel_rfl
@[go_sem] theorem ZAN : Tryz.prog.cellsOf 198 = 3 := by kernel_rfl
@[go_sem] theorem ZBB : tyi Tryz.prog 199 = ⟨1, false, [.slice none 0 0], 206, 0, 1, [], 24, true, true, false, [], false, false⟩ := by kernel_rfl
@[go_sem] theorem ZBU : Tryz.prog.cellsOf 199 = 1 := by kernel_rfl
@[go_sem] theorem ZBc : tyi Tryz.prog 204 = ⟨4, true, [.int .i64 0, .int .i64 0, .int .i64 0, .bool false], 0, 0, 3, [(0, 3), (1, 3), (2, 3), (3, 4)], 32, true, true, false, [(0, 1), (1, 1), (2, 1), (3, 1)], true, false⟩ := by kernel_rfl
@[go_sem] theorem ZAH : Tryz.prog.cellsOf 204 = 4 := by kernel_rfl
@[go_sem] theorem ZA7 : tyi Tryz.prog 206 = ⟨7, true, [.int .i64 0, .int .i64 0, .int .i64 0, .int .i64 0, .int .i64 0, .bool false, .bool false], 0, 0, 3, [(0, 3), (1, 3), (2, 204), (6, 4)], 56, true, true, false, [(0, 1), (1, 1), (2, 4), (6, 1)], true, false⟩ := by kernel_rfl
@[go_sem] theorem ZBt : Tryz.prog.cellsOf 206 = 7 := by kernel_rfl
@[go_sem] theorem ZBv : tyi Tryz.prog 220 = ⟨4, true, [.slice none 0 0, .slice none 0 0, .slice none 0 0, .int .i64 0], 0, 0, 3, [(0, 31), (1, 38), (2, 38), (3, 3)], 80, true, true, false, [(0, 1), (1, 1), (2, 1), (3, 1)], true, false⟩ := by kernel_rfl
@[go_sem] theorem ZB3 : Tryz.prog.cellsOf 220 = 4 := by kernel_rfl
@[go_sem] theorem ZBo : tyi Tryz.prog 225 = ⟨1, false, [.slice none 0 0], 4, 0, 1, [], 24, true, true, false, [], false, false⟩ := by kernel_rfl
@[go_sem] theorem ZAl : Tryz.prog.cellsOf 225 = 1 := by kernel_rfl
@[go_sem] theorem ZBO : tyi Tryz.prog 230 = ⟨1, false, [.slice none 0 0], 5, 0, 1, [], 24, true, true, false, [], false, false⟩ := by kernel_rfl
@[go_sem] theorem ZAI : Tryz.prog.cellsOf 230 = 1 := by kernel_rfl
@[go_sem] theorem ZCt : tyi Tryz.prog 236 = ⟨8, true, [.int .i64 0, .int .i64 0, .int .i64 0, .int .i64 0, .int .i64 0, .int .i64 0, .int .i64 0, .int .i64 0], 3, 8, 2, [], 64, true, true, false, [], false, false⟩ := by kernel_rfl
@[go_sem] theorem ZBn : Tryz.prog.cellsOf 236 = 8 := by kernel_rfl
@[go_sem] theorem ZCw : tyi Tryz.prog 237 = ⟨64, true, [.int .i64 0, .int .i64 0, .int .i64 0, .int .i64 0, .int .i64 0, .int .i64 0, .int .i64 0, .int .i64 0, .int .i64 0, .int .i64 0, .int .i64 0, .int .i64 0, .int .i64 0, .int .i64 0, .int .i64 0, .int .i64 0, .int .i64 0, .int .i64 0, .int .i64 0, .int .i64 0, .int .i64 0, .int .i64 0, .int .i64 0, .int .i64 0, .int .i64 0, .int .i64 0, .int .i64 0, .int .i64 0, .int .i64 0, .int .i64 0, .int .i64 0, .int .i64 0, .int .i64 0, .int .i64 0, .int .i64 0, .int .i64 0, .int .i64 0, .int .i64 0, .int .i64 0, .int .i64 0, .int .i64 0, .int .i64 0, .int .i64 0, .int .i64 0, .int .i64 0, .int .i64 0, .int .i64 0, .int .i64 0, .int .i64 0, .int .i64 0, .int .i64 0, .int .i64 0, .int .i64 0, .int .i64 0, .int .i64 0, .int .i64 0, .int .i64 0, .int .i64 0, .int .i64 0, .int .i64 0, .int .i64 0, .int .i64 0, .int .i64 0, .int .i64 0], 236, 8, 2, [], 512, true, true, false, [], false, false⟩ := by kernel_rfl
@[go_sem] theorem ZBg : Tryz.prog.cellsOf 237 = 64 := by kernel_rfl
@[go_sem] theorem ZAE : tyi Tryz.prog 239 = ⟨66, true, [.int .i64 0, .int .i64 0, .int .i64 0, .int .i64 0, .int .i64 0, .int .i64 0, .int .i64 0, .int .i64 0, .int .i64 0, .int .i64 0, .int .i64 0, .int .i64 0, .int .i64 0, .int .i64 0, .int .i64 0, .int .i64 0, .int .i64 0, .int .i64 0, .int .i64 0, .int .i64 0, .int .i64 0, .int .i64 0, .int .i64 0, .int .i64 0, .int .i64 0, .int .i64 0, .int .i64 0, .int .i64 0, .int .i64 0, .int .i64 0, .int .i64 0, .int .i64 0, .int .i64 0, .int .i64 0, .int .i64 0, .int .i64 0, .int .i64 0, .int .i64 0, .int .i64 0, .int .i64 0, .int .i64 0, .int .i64 0, .int .i64 0, .int .i64 0, .int .i64 0, .int .i64 0, .int .i64 0, .int .i64 0, .int .i64 0, .int .i64 0, .int .i64 0, .int .i64 0, .int .i64 0, .int .i64 0, .int .i64 0, .int .i64 0, .int .i64 0, .int .i64 0, .int .i64 0, .int .i64 0, .int .i64 0, .int .i64 0, .int .i64 0, .int .i64 0, .int .i64 0, .slice none 0 0], 0, 0, 3, [(0, 3), (1, 237), (65, 38)], 544, true, true, false, [(0, 1), (1, 64), (65, 1)], true, false⟩ := by kernel_rfl
@[go_sem] theorem ZBF : Tryz.prog.cellsOf 239 = 66 := by kernel_rfl
@[go_sem] theorem ZCe : tyi Tryz.prog 243 = ⟨1, false, [.slice none 0 0], 245, 0, 1, [], 24, true, true, false, [], false, false⟩ := by kernel_rfl
@[go_sem] theorem ZAA : Tryz.prog.cellsOf 243 = 1 := by kernel_rfl
@[go_sem] theorem ZBK : tyi Tryz.prog 245 = ⟨1, false, [.slice none 0 0], 204, 0, 1, [], 24, true, true, false, [], false, false⟩ := by kernel_rfl
@[go_sem] theorem ZA4 : Tryz.prog.cellsOf 245 = 1 := by kernel_rfl
@[go_sem] theorem ZBa : tyi Tryz.prog 258 = ⟨1, false, [.slice none 0 0], 261, 0, 1, [], 24, true, true, false, [], false, false⟩ := by kernel_rfl
@[go_sem] theorem ZCa : Tryz.prog.cellsOf 258 = 1 := by kernel_rfl
@[go_sem] theorem ZBE : tyi Tryz.prog 261 = ⟨2, true, [.int .i64 0, .slice none 0 0], 0, 0, 3, [(0, 3), (1, 38)], 32, true, true, false, [(0, 1), (1, 1)], true, false⟩ := by kernel_rfl
@[go_sem] theorem ZBG : Tryz.prog.cellsOf 261 = 2 := by kernel_rfl
@[go_sem] theorem ZCg : tyi Tryz.prog 274 = ⟨1, false, [.int .u32 0], 0, 0, 5, [], 4, true, true, false, [], false, false⟩ := by kernel_rfl
@[go_sem] theorem ZA6 : Tryz.prog.cellsOf 274 = 1 := by kernel_rfl
@[go_sem] theorem ZAQ : tyi Tryz.prog 276 = ⟨1, false, [.int .u64 0], 0, 0, 5, [], 8, true, true, false, [], false, false⟩ := by kernel_rfl
@[go_sem] theorem ZAL : Tryz.prog.cellsOf 276 = 1 := by kernel_rfl
@[go_sem] theorem ZAU : tyi Tryz.prog 289 = ⟨64, true, [.int .u8 0, .int .u8 0, .int .u8 0, .int .u8 0, .int .u8 0, .int .u8 0, .int .u8 0, .int .u8 0, .int .u8 0, .int .u8 0, .int .u8 0, .int .u8 0, .int .u8 0, .int .u8 0, .int .u8 0, .int .u8 0, .int .u8 0, .int .u8 0, .int .u8 0, .int .u8 0, .int .u8 0, .int .u8 0, .int .u8 0, .int .u8 0, .int .u8 0, .int .u8 0, .int .u8 0, .int .u8 0, .int .u8 0, .int .u8 0, .int .u8 0, .int .u8 0, .int .u8 0, .int .u8 0, .int .u8 0, .int .u8 0, .int .u8 0, .int .u8 0, .int .u8 0, .int .u8 0, .int .u8 0, .int .u8 0, .int .u8 0, .int .u8 0, .int .u8 0, .int .u8 0, .int .u8 0, .int .u8 0, .int .u8 0, .int .u8 0, .int .u8 0, .int .u8 0, .int .u8 0, .int .u8 0, .int .u8 0, .int .u8 0, .int .u8 0, .int .u8 0, .int .u8 0, .int .u8 0, .int .u8 0, .int .u8 0, .int .u8 0, .int .u8 0], 5, 64, 2, [], 64, true, true, false, [], false, false⟩ := by kernel_rfl
@[go_sem] theorem ZBw : Tryz.prog.cellsOf 289 = 64 := by kernel_rfl

end Go.Proofs.YtjjbhjnpeenbkaaGreatDoor
namespace Go.Proofs.YtjjbhjnpeenbkaaGreatDoor
open Go Go.PS Go.Proofs
set_option maxRecDepth 100000
attribute [local irreducible] Zab wpG Zaa

abbrev Arc := Int × Int
abbrev ZaY (a : Arc) : D := .ag [.int a.1, .int a.2]
theorem ZnO (p q : Arc) : (decide (p.1 = q.1) && decide (p.2 = q.2)) = decide (p = q) := by
 rw [Bool.eq_iff_iff]; simp [Prod.ext_iff]
abbrev Zak (l : List Arc) : D := .sl (l.map ZaY)
abbrev Zac (l : List Int) : D := .sl (l.map D.int)
abbrev Gr := Int × List Arc
abbrev gD (g : Gr) : D := .ag [.int g.1, Zak g.2]
def Zfs (n : Int) (a : Arc) : Bool := decide (0 ≤ a.1 ∧ a.1 < n ∧ 0 ≤ a.2 ∧ a.2 < n)
def gOk (g : Gr) : Bool := decide (0 ≤ g.1 ∧ g.1 ≤ 64 ∧ g.2.length ≤ 256) && !g.2.any (fun a => !Zfs g.1 a)
theorem ZhR {g : Gr} (h : gOk g = true) : 0 ≤ g.1 ∧ g.1 ≤ 64 ∧ g.2.length ≤ 256 ∧ ∀ (k : Nat) a, g.2[k]? = some a → 0 ≤ a.1 ∧ a.1 < g.1 ∧ 0 ≤ a.2 ∧ a.2 < g.1 := by
 simp only [gOk, Bool.and_eq_true, decide_eq_true_eq, Bool.not_eq_true', List.any_eq_false] at h;obtain ⟨⟨h1, h2, h3⟩, h4⟩ := h;refine ⟨h1, h2, h3, fun k a hk => ?_⟩;have := h4 a (List.mem_of_getElem? hk);simpa [Zfs] using this

theorem ZfA (g : Gr) : Zaa Tryz.prog 97 [gD g] (.bool (gOk g)) := by
 obtain ⟨n, l⟩ := g;refine kE Tryz.func97 ?_;intro hat B X w0;have hl := Zb8 0 1 hat rfl rfl;rw [List.length_map] at hl;refine kw kO kc0 kc0 ?_
 repeat' first | exact True.intro | refine Bn.mk ?_ ?_ | intro hc
 all_goals try (refine Zaj ?_; simp [gOk]; omega)
 refine Zai (fun (k : Nat) => k ≤ l.length ∧ ∀ (j : Nat) y, j < k → l[j]? = some y → (!Zfs n y) = false) (fun k => [(1, .ptr 1 0 0 0), (20, .d (Zak l)), (21, .int l.length), (22, .int k)]) (fun k => [(1, .cells [.int n, .d (Zak l)])]) (fun k => l.length - k) 0 ?_ ?_ ?_
 ·exact ⟨Nat.zero_le _, fun j y h => by omega⟩
 ·exact kN kc0 []
 ·rintro k ⟨hk, hinv⟩;rcases Nat.lt_or_ge k l.length with hlt | hge
  ·obtain ⟨p, hp⟩ := Zad hlt;refine kw kO (kc1 hp) kc0 ?_
   repeat' first | exact True.intro | refine Bn.mk ?_ ?_ | intro hc
   all_goals try
    refine Zaj ?_;rw [gOk, Zc7 hp (by simp [Zfs]; omega)]; simp
   ·refine ⟨k + 1, ?_, eL [] _ _ (by refine ⟨?_, ?_⟩ <;> (repeat' first | exact fmn | refine fmc ⟨(by first | rfl | (simp (disch := omega) only [go_sem, simprocAttr, inL]; first | done | omega | (congr 1; done))), ?_⟩); done), ?_⟩
    ·exact ⟨by omega, ZbL hinv hp (by simp [Zfs]; omega)⟩
    ·omega
  ·refine kw1 kO kc0 kc0 ?_;refine Zaj ?_;rw [gOk, ZdI (fun j y hj => hinv j y (by omega))];simp; omega
theorem Zh5 (g : Gr) : Zaa Tryz.prog 112 [gD g] (.bool (gOk g)) := by
 obtain ⟨n, l⟩ := g;refine kE Tryz.func112 ?_;intro hat B X w0;have hl := Zb8 0 1 hat rfl rfl;rw [List.length_map] at hl;refine kw kO kc0 kc0 ?_
 repeat' first | exact True.intro | refine Bn.mk ?_ ?_ | intro hc
 all_goals try (refine Zaj ?_; simp [gOk]; omega)
 refine Zai (fun (k : Nat) => k ≤ l.length ∧ ∀ (j : Nat) y, j < k → l[j]? = some y → (!Zfs n y) = false) (fun k => [(1, .ptr 1 0 0 0), (3, .int k)]) (fun k => [(1, .cells [.int n, .d (Zak l)])]) (fun k => l.length - k) 0 ?_ ?_ ?_
 ·exact ⟨Nat.zero_le _, fun j y h => by omega⟩
 ·exact kN kc0 []
 ·rintro k ⟨hk, hinv⟩;rcases Nat.lt_or_ge k l.length with hlt | hge
  ·obtain ⟨p, hp⟩ := Zad hlt;refine kw kO (kc1 hp) kc0 ?_
   repeat' first | exact True.intro | refine Bn.mk ?_ ?_ | intro hc
   all_goals try
    refine Zaj ?_;rw [gOk, Zc7 hp (by simp [Zfs]; omega)]; simp
   ·refine ⟨k + 1, ?_, eL [] _ _ (by refine ⟨?_, ?_⟩ <;> (repeat' first | exact fmn | refine fmc ⟨(by first | rfl | (simp (disch := omega) only [go_sem, simprocAttr, inL]; first | done | omega | (congr 1; done))), ?_⟩); done), ?_⟩
    ·exact ⟨by omega, ZbL hinv hp (by simp [Zfs]; omega)⟩
    ·omega
  ·refine kw1 kO kc0 kc0 ?_;refine Zaj ?_;rw [gOk, ZdI (fun j y hj => hinv j y (by omega))];simp; omega
theorem ZrT (l m : List Arc) : Zaa Tryz.prog 174 [Zak l, Zak m] (.bool (decide (l = m))) := by
 refine kE Tryz.func174 ?_;intro hat B X w0;have hl := Zbi 0 hat rfl;have hm := Zbi 1 hat rfl;rw [List.length_map] at hl hm;by_cases hlm : l.length = m.length
 ·refine kw1 kO kc0 kc0 ?_;refine Zai (fun (k : Nat) => k ≤ l.length ∧ l.take k = m.take k) (fun k => [(0, .d (Zak l)), (1, .d (Zak m)), (12, .int l.length), (13, .int k)]) (fun k => []) (fun k => l.length - k) 0 ?_ ?_ ?_
  ·exact ⟨Nat.zero_le _, rfl⟩
  ·exact kN kc0 []
  ·rintro k ⟨hk, hinv⟩;rcases Nat.lt_or_ge k l.length with hlt | hge
   ·obtain ⟨p, hp⟩ := Zad hlt;obtain ⟨q, hq⟩ := Zad (hlm ▸ hlt);refine kw kO (kc3 hp hq @ZnO) kc0 ?_
    repeat' first | exact True.intro | refine Bn.mk ?_ ?_ | intro hc
    ·refine Zaj ?_;rw [decide_eq_false (Zf5 hp hq hc)]
    ·refine ⟨k + 1, ?_, eL [] _ _ (by refine ⟨?_, ?_⟩ <;> (repeat' first | exact fmn | refine fmc ⟨(by first | rfl | (simp (disch := omega) only [go_sem, simprocAttr, inL]; first | done | omega | (congr 1; done))), ?_⟩); done), ?_⟩
     ·exact ⟨by omega, by rw [ZaD hp, ZaD hq, hinv, hc]⟩
     ·omega
   ·refine kw1 kO kc0 kc0 ?_;refine Zaj ?_;rw [List.take_of_length_le hge, List.take_of_length_le (by omega)] at hinv;simp [hinv]
 ·refine kw1 kO kc0 kc0 ?_;refine Zaj ?_;rw [decide_eq_false];rintro rfl; exact hlm rfl
def placeF (l : List Int) (n : Int) : Int := ZcH (l.findIdx? (fun x => decide (x = n)))
theorem ZjY (l : List Int) (n : Int) : Zaa Tryz.prog 170 [Zac l, .int n] (.int (placeF l n)) := by
 refine kE Tryz.func170 ?_;intro hat B X w0;have hl := Zbi 0 hat rfl;rw [List.length_map] at hl;refine kw1 kO kc0 kc0 ?_;refine Zai (fun (k : Nat) => k ≤ l.length ∧ ∀ (j : Nat) y, j < k → l[j]? = some y → (decide (y = n)) = false) (fun k => [(0, .d (Zac l)), (1, .int n), (7, .int l.length), (8, .int k)]) (fun k => []) (fun k => l.length - k) 0 ?_ ?_ ?_
 ·exact ⟨Nat.zero_le _, fun j y h => by omega⟩
 ·exact kN kc0 []
 ·rintro k ⟨hk, hinv⟩;rcases Nat.lt_or_ge k l.length with hlt | hge
  ·obtain ⟨p, hp⟩ := Zad hlt;refine kw kO (kc1 hp) kc0 ?_
   repeat' first | exact True.intro | refine Bn.mk ?_ ?_ | intro hc
   ·refine Zah ?_;rw [placeF, Zel hp (by simpa using hc.symm) hinv]; rfl
   ·refine ⟨k + 1, ?_, eL [] _ _ (by refine ⟨?_, ?_⟩ <;> (repeat' first | exact fmn | refine fmc ⟨(by first | rfl | (simp (disch := omega) only [go_sem, simprocAttr, inL]; first | done | omega | (congr 1; done))), ?_⟩); done), ?_⟩
    ·exact ⟨by omega, ZbL hinv hp (by simpa using fun h => hc h.symm)⟩
    ·omega
  ·refine kw1 kO kc0 kc0 ?_;refine Zah ?_;rw [placeF, ZeX (fun j y hy => hinv j y (by have := (List.getElem?_eq_some_iff.1 hy).1; omega) hy)]; rfl
theorem Zoq (l m : List Int) : Zaa Tryz.prog 173 [Zac l, Zac m] (.bool (decide (l = m))) := by
 refine kE Tryz.func173 ?_;intro hat B X w0;have hl := Zbi 0 hat rfl;have hm := Zbi 1 hat rfl;rw [List.length_map] at hl hm;by_cases hlm : l.length = m.length
 ·refine kw1 kO kc0 kc0 ?_;refine Zai (fun (k : Nat) => k ≤ l.length ∧ l.take k = m.take k) (fun k => [(0, .d (Zac l)), (1, .d (Zac m)), (12, .int l.length), (13, .int k)]) (fun k => []) (fun k => l.length - k) 0 ?_ ?_ ?_
  ·exact ⟨Nat.zero_le _, rfl⟩
  ·exact kN kc0 []
  ·rintro k ⟨hk, hinv⟩;rcases Nat.lt_or_ge k l.length with hlt | hge
   ·obtain ⟨p, hp⟩ := Zad hlt;obtain ⟨q, hq⟩ := Zad (hlm ▸ hlt);refine kw kO (kc2 hp hq) kc0 ?_
    repeat' first | exact True.intro | refine Bn.mk ?_ ?_ | intro hc
    ·refine Zaj ?_;rw [decide_eq_false (Zf5 hp hq hc)]
    ·refine ⟨k + 1, ?_, eL [] _ _ (by refine ⟨?_, ?_⟩ <;> (repeat' first | exact fmn | refine fmc ⟨(by first | rfl | (simp (disch := omega) only [go_sem, simprocAttr, inL]; first | done | omega | (congr 1; done))), ?_⟩); done), ?_⟩
     ·exact ⟨by omega, by rw [ZaD hp, ZaD hq, hinv, hc]⟩
     ·omega
   ·refine kw1 kO kc0 kc0 ?_;refine Zaj ?_;rw [List.take_of_length_le hge, List.take_of_length_le (by omega)] at hinv;simp [hinv]
 ·refine kw1 kO kc0 kc0 ?_;refine Zaj ?_;rw [decide_eq_false];rintro rfl; exact hlm rfl
abbrev Zae (l : List (List Int)) : D := .sl (l.map Zac)
theorem Zvs (l m : List (List Int)) : Zaa Tryz.prog 172 [Zae l, Zae m, .fn 173 []] (.bool (decide (l = m))) := by
 refine kE Tryz.func172 ?_;intro hat B X w0;have hl := Zbi 0 hat rfl;have hm := Zbi 1 hat rfl;rw [List.length_map] at hl hm;by_cases hlm : l.length = m.length
 ·refine kw1 kO kc0 kc0 ?_;refine Zai (fun (k : Nat) => k ≤ l.length ∧ l.take k = m.take k) (fun k => [(0, .d (Zae l)), (1, .d (Zae m)), (2, .d (.fn 173 [])), (15, .d (Zae l)), (16, .int l.length), (17, .int k)]) (fun k => []) (fun k => l.length - k) 0 ?_ ?_ ?_
  ·exact ⟨Nat.zero_le _, rfl⟩
  ·exact kN kc0 []
  ·rintro k ⟨hk, hinv⟩;rcases Nat.lt_or_ge k l.length with hlt | hge
   ·obtain ⟨p, hp⟩ := Zad hlt;obtain ⟨q, hq⟩ := Zad (hlm ▸ hlt);have he := Zoq p q;by_cases hpq : p = q
    ·rw [decide_eq_true hpq] at he;refine kw1 kO (kc2 hp hq) (kc1 he) ?_;refine ⟨k + 1, ?_, kN kc0 [], ?_⟩
     ·exact ⟨by omega, by rw [ZaD hp, ZaD hq, hinv, hpq]⟩
     ·omega
    ·rw [decide_eq_false hpq] at he;refine kw1 kO (kc2 hp hq) (kc1 he) ?_;refine Zaj ?_;rw [decide_eq_false (Zf5 hp hq hpq)]
   ·refine kw1 kO kc0 kc0 ?_;refine Zaj ?_;rw [List.take_of_length_le hge, List.take_of_length_le (by omega)] at hinv;simp [hinv]
 ·refine kw1 kO kc0 kc0 ?_;refine Zaj ?_;rw [decide_eq_false];rintro rfl; exact hlm rfl
theorem Zyu (l : List Int) (g : Nat) (p : Int → Bool) (hp : ∀ x, Zaa Tryz.prog g [.int x] (.bool (p x))) : Zaa Tryz.prog 163 [Zac l, .fn g []] (.int (ZcH (l.findIdx? p))) := by
 refine kE Tryz.func163 ?_;intro hat B X w0;have hl := Zbi 0 hat rfl;rw [List.length_map] at hl;refine kw1 kO kc0 kc0 ?_;refine Zai (fun (k : Nat) => k ≤ l.length ∧ ∀ (j : Nat) y, j < k → l[j]? = some y → p y = false) (fun k => [(0, .d (Zac l)), (1, .d (.fn g [])), (7, .int l.length), (8, .int k)]) (fun k => []) (fun k => l.length - k) 0 ?_ ?_ ?_
 ·exact ⟨Nat.zero_le _, fun j y h => by omega⟩
 ·exact kN kc0 []
 ·rintro k ⟨hk, hinv⟩;rcases Nat.lt_or_ge k l.length with hlt | hge
  ·obtain ⟨x, hx⟩ := Zad hlt;have hpx := hp x;rcases hb : p x with _ | _ <;> rw [hb] at hpx
   ·refine kw1 kO (kc1 hx) (kc1 hpx) ?_;refine ⟨k + 1, ?_, kN kc0 [], ?_⟩
    ·exact ⟨by omega, ZbL hinv hx hb⟩
    ·omega
   ·refine kw1 kO (kc1 hx) (kc1 hpx) ?_;refine Zah ?_;rw [Zel hx hb hinv]; rfl
  ·refine kw1 kO kc0 kc0 ?_;refine Zah ?_;rw [ZeX (fun j y hy => hinv j y (by have := (List.getElem?_eq_some_iff.1 hy).1; omega) hy)]; rfl
theorem Zv4 (l : List Arc) (g : Nat) (p : Arc → Bool) (hp : ∀ x, Zaa Tryz.prog g [ZaY x] (.bool (p x))) : Zaa Tryz.prog 164 [Zak l, .fn g []] (.int (ZcH (l.findIdx? p))) := by
 refine kE Tryz.func164 ?_;intro hat B X w0;have hl := Zbi 0 hat rfl;rw [List.length_map] at hl;refine kw1 kO kc0 kc0 ?_;refine Zai (fun (k : Nat) => k ≤ l.length ∧ ∀ (j : Nat) y, j < k → l[j]? = some y → p y = false) (fun k => [(0, .d (Zak l)), (1, .d (.fn g [])), (7, .int l.length), (8, .int k)]) (fun k => []) (fun k => l.length - k) 0 ?_ ?_ ?_
 ·exact ⟨Nat.zero_le _, fun j y h => by omega⟩
 ·exact kN kc0 []
 ·rintro k ⟨hk, hinv⟩;rcases Nat.lt_or_ge k l.length with hlt | hge
  ·obtain ⟨x, hx⟩ := Zad hlt;have hpx := hp x;rcases hb : p x with _ | _ <;> rw [hb] at hpx
   ·refine kw1 kO (kc1 hx) (kc1 hpx) ?_;refine ⟨k + 1, ?_, kN kc0 [], ?_⟩
    ·exact ⟨by omega, ZbL hinv hx hb⟩
    ·omega
   ·refine kw1 kO (kc1 hx) (kc1 hpx) ?_;refine Zah ?_;rw [Zel hx hb hinv]; rfl
  ·refine kw1 kO kc0 kc0 ?_;refine Zah ?_;rw [ZeX (fun j y hy => hinv j y (by have := (List.getElem?_eq_some_iff.1 hy).1; omega) hy)]; rfl
theorem ZjH (l : List Int) (g : Nat) (p : Int → Bool) (hp : ∀ x, Zaa Tryz.prog g [.int x] (.bool (p x))) : Zaa Tryz.prog 98 [Zac l, .fn g []] (.bool (l.any p)) := by
 have h := Zyu l g p hp;refine kE Tryz.func98 ?_;intro hat B X w0;refine kw1 kO kc0 (kc1 h) ?_;exact Zaj (ZgG p l)
theorem Zo7 (l : List Arc) (g : Nat) (p : Arc → Bool) (hp : ∀ x, Zaa Tryz.prog g [ZaY x] (.bool (p x))) : Zaa Tryz.prog 100 [Zak l, .fn g []] (.bool (l.any p)) := by
 have h := Zv4 l g p hp;refine kE Tryz.func100 ?_;intro hat B X w0;refine kw1 kO kc0 (kc1 h) ?_;exact Zaj (ZgG p l)
def ZcG (k : Int) : Bool := decide (k < 0 ∨ 255 < k)
theorem ZlB (k : Int) : Zaa Tryz.prog 99 [.int k] (.bool (ZcG k)) := by
 refine kE Tryz.func99 ?_;intro hat B X w0;refine kw kO kc0 kc0 ?_
 repeat' first | exact True.intro | refine Bn.mk ?_ ?_ | intro hc
 all_goals
  refine Zaj ?_;simp [ZcG]; omega
def Zc6 (a : Arc) : Bool := decide (a.1 = a.2)
theorem Zrr (a : Arc) : Zaa Tryz.prog 101 [ZaY a] (.bool (Zc6 a)) := by
 refine kE Tryz.func101 ?_;intro hat B X w0;refine kw1 kO kc0 kc0 ?_
 all_goals exact Zaj rfl
end Go.Proofs.YtjjbhjnpeenbkaaGreatDoor
namespace Go.Proofs
open Go.Shelf
shelf_lay Lays.n189 Nm 189 at Tryz as Tryz.laysSort
end Go.Proofs
namespace Go.Proofs.YtjjbhjnpeenbkaaGreatDoor
open Go Go.PS Go.Proofs Go.Sort Go.RowKit
abbrev intsL (l : List Int) : List D := l.map D.int
def ZaG (l : List Int) : List Int := l.mergeSort fun x y => decide (x ≤ y)
theorem ZnZ (l : List Int) : (ZaG l).length = l.length := by simp [ZaG]
end Go.Proofs.YtjjbhjnpeenbkaaGreatDoor
namespace Go.Proofs.YtjjbhjnpeenbkaaGreatDoor
open Go Go.Proofs Go.RowKit Go.Shelf
attribute [local go_sem] Oper.semAt_some

def Zc8 {α : Type} (f : Nat → α) (k : Nat) : List α := (List.range k).map f
theorem Zom {α : Type} (f : Nat → α) (k : Nat) : Zc8 f (k + 1) = Zc8 f k ++ [f k] := by simp [Zc8, List.range_succ]
theorem ZzY {α : Type} (f : Nat → α) (k : Nat) : (Zc8 f k).length = k := by simp [Zc8]
theorem Zwc (zs : List Int) : Zc8 (fun j => zs[j]?.getD 0) zs.length = zs := by
 apply List.ext_getElem
 ·simp [Zc8]
 ·intro i h1 h2;simp [Zc8, h2]
theorem ZvW (zs : List Int) {k : Nat} (hk : k ≤ zs.length) : Zc8 (fun j => zs[j]?.getD 0) k = zs.take k := by
 apply List.ext_getElem
 ·simp [Zc8, hk]
 ·intro i h1 h2;have : i < zs.length := by simp [Zc8] at h1; omega
  simp [Zc8, this]
def Zgl (n₀ : Nat) (W : World) (sv : Value) (zs : List Int) : Prop :=
 (∃ a cap, sv = .slice a 0 cap ∧ zs = []) ∨ ∃ b off cap, sv = .slice (some ⟨b, off, none⟩) zs.length cap ∧ b < n₀ ∧ ∀ j, j < zs.length → W.cell? ⟨b, off + j, none⟩ = some (.int .i64 (zs[j]?.getD 0))
theorem Zgl.below {n₀ : Nat} {A B : World} (h : Below n₀ A B) {sv : Value} {zs : List Int} : Zgl n₀ A sv zs → Zgl n₀ B sv zs
 | .inl e => .inl e
 | .inr ⟨b, off, cap, e, hb, hc⟩ => .inr ⟨b, off, cap, e, hb, fun j hj => (h.cell (p := ⟨b, off + j, none⟩) hb).trans (hc j hj)⟩

set_option maxRecDepth 100000 in
theorem ZuQ (F : Fence) (n : Nat) (h7 : F.fn 220) (hro : F.round = none) (hn : 1 ≤ n) (l Bs ob n₀ b off len cap : Nat) (zs : List Int) (hreach : len * 8 ≤ 140737488351232) (hb : b < n₀) (J Jx : List Int → World → Prop)
  (hY : ∀ pre x W, J pre W → pre.length < len → YieldAt F (n - 1) Tryz.prog l #[.int .i64 x] W fun e W' =>
   (e = .returned (.bool true) ∧ J (pre ++ [x]) W' ∧ Below n₀ W W') ∨ (e = .returned (.bool false) ∧ Jx (pre ++ [x]) W'))
  (W : World) (hBs : W.cell? ⟨Bs, ob, none⟩ = some (.slice (some ⟨b, off, none⟩) len cap)) (hc : ∀ j, j < len → W.cell? ⟨b, off + j, none⟩ = some (.int .i64 (zs[j]?.getD 0))) (h0 : J [] W) :
  CallsIn F n Tryz.prog 220 #[.func (.yield l) #[] #[], .pointer (some ⟨Bs, ob, none⟩)] W fun e W' => (∃ v, e = .returned v) ∧
   ((∃ ys, ys = Zc8 (fun j => zs[j]?.getD 0) len ∧ J ys W') ∨ (∃ pre, (∃ k, k ≤ len ∧ pre = Zc8 (fun j => zs[j]?.getD 0) k) ∧ Jx pre W')) := by
 refine callsIn_of_wp Tryz.func220 rfl h7 ?_ hro;simp only [Tryz.ntmps220, List.size_toArray, List.length_cons, List.length_nil, Nat.reduceAdd, Nat.reduceSub, Array.replicate_succ, Array.replicate_zero, List.push_toArray, List.append_toArray, List.nil_append, List.cons_append]
 gi_wp2
 gi_loopw [7] (fun i wr => ∃ k : Nat, k ≤ len ∧ i = .int .i64 k ∧ J (Zc8 (fun j => zs[j]?.getD 0) k) wr ∧ Below n₀ W wr)
  (fun i _ => len - (intOf i).toNat)
 case atStart => exact ⟨0, Nat.zero_le _, rfl, h0, Below.refl _ _⟩
 case round =>
  obtain ⟨k, hk, rfl, hJs, hnx⟩ := hrel;have hcx : k < len → wr.cell? ⟨b, off + k, none⟩ = some (.int .i64 (zs[k]?.getD 0)) := fun h => (hnx.cell (p := ⟨b, off + k, none⟩) hb).trans (hc k h)
  by_cases hlt : k < len
  ·obtain ⟨fn, tmps, assign, body, hy, hR⟩ := hY _ (zs[k]?.getD 0) wr hJs (by rw [ZzY]; exact hlt);have hcx' := hcx hlt
   gi_wp2
   refine hR.mono ?_;rintro e W3 (⟨rfl, hJ3, hk3⟩ | ⟨rfl, hJx3⟩)
   ·gi_wp2
    go_roundw
    case rel => exact ⟨k + 1, by omega, by simp, by rw [Zom]; exact hJ3, hnx.trans hk3⟩
    case measure => simp [intOf]; omega
   ·gi_wp2
    refine bodyPost_ret (results_none rfl _ _ _) rfl ?_;exact ⟨⟨_, rfl⟩, .inr ⟨_, ⟨k + 1, by omega, (Zom _ _).symm⟩, hJx3⟩⟩
  ·obtain rfl : k = len := by omega
   gi_wp2
   go_end0
   exact ⟨⟨_, rfl⟩, .inl ⟨_, rfl, hJs⟩⟩
set_option maxRecDepth 100000 in
theorem Zsn (F : Fence) (n : Nat) (h7 : F.fn 220) (hro : F.round = none) (l Bs ob cap : Nat) (a : Option Addr) (J : List Int → World → Prop) (W : World) (hBs : W.cell? ⟨Bs, ob, none⟩ = some (.slice a 0 cap)) (h0 : J [] W) :
  CallsIn F n Tryz.prog 220 #[.func (.yield l) #[] #[], .pointer (some ⟨Bs, ob, none⟩)] W fun e W' => (∃ v, e = .returned v) ∧ J [] W' := by
 refine callsIn_of_wp Tryz.func220 rfl h7 ?_ hro;simp only [Tryz.ntmps220, List.size_toArray, List.length_cons, List.length_nil, Nat.reduceAdd, Nat.reduceSub, Array.replicate_succ, Array.replicate_zero, List.push_toArray, List.append_toArray, List.nil_append, List.cons_append]
 gi_wp2
 gi_loopw [7] (fun i wr => i = .int .i64 0 ∧ J [] wr) (fun _ _ => 0)
 case atStart => exact ⟨rfl, h0⟩
 case round =>
  obtain ⟨rfl, hJs⟩ := hrel
  gi_wp2
  go_end0
  exact ⟨⟨_, rfl⟩, hJs⟩
theorem Zus (F : Fence) (n : Nat) (h7 : F.fn 220) (hro : F.round = none) (hn : 1 ≤ n) (Bs ob n₀ : Nat) (sv : Value) (zs : List Int) (hreach : zs.length * 8 ≤ 140737488351232) (w : World) (hBs : Bs < w.heap.size) (hn₀ : n₀ ≤ w.heap.size)
  (hc : w.cell? ⟨Bs, ob, none⟩ = some sv) (hI : Zgl n₀ w sv zs) :
  SeqStopsK F n Tryz.prog 220 #[.pointer (some ⟨Bs, ob, none⟩)] (fun x : Int => #[Value.int .i64 x]) (Below n₀) (fun ys => ys = zs) (fun pre => pre <+: zs) zs.length w := fun l J Jx W hW _ _ hY h0 => by
 have hc' := (hW.cell (p := ⟨Bs, ob, none⟩) hBs).trans hc;rcases hI.below (hW.mono hn₀) with ⟨a, cap, rfl, rfl⟩ | ⟨b, off, cap, rfl, hb, hcs⟩
 ·exact (Zsn F n h7 hro l Bs ob cap a J W hc' h0).mono fun e W' ⟨he, hj⟩ => ⟨he, .inl ⟨_, rfl, hj⟩⟩
 ·refine (ZuQ F n h7 hro hn l Bs ob n₀ b off zs.length cap zs hreach hb J Jx hY W hc' hcs h0).mono ?_;rintro e W' ⟨he, ⟨ys, rfl, hj⟩ | ⟨pre, ⟨k, hk, rfl⟩, hj⟩⟩
  ·exact ⟨he, .inl ⟨_, Zwc zs, hj⟩⟩
  ·exact ⟨he, .inr ⟨_, by rw [ZvW zs hk]; exact List.take_prefix _ _, hj⟩⟩
theorem Zx2 : (Tryz.prog.info? 3).map (fun i => (i.zero, i.size, i.bytes)) = some (some (.int .i64 0), 1, 8) := by kernel_rfl
set_option maxRecDepth 100000 in
theorem Zye (F : Fence) (n : Nat) (h3 : F.fn 248) (h5 : F.fn 220) (hro : F.round = none) (hn : 3 ≤ n) (Bs ob : Nat) (sv : Value) (zs : List Int) (hlen : zs.length ≤ maxLen) (hbytes : zs.length * 8 ≤ 140737488351232) (w : World)
  (hBs : Bs < w.heap.size) (hc : w.cell? ⟨Bs, ob, none⟩ = some sv) (hI : Zgl w.heap.size w sv zs) :
  CallsIn F n Tryz.prog 248 #[.slice none 0 0, .func (.func 220) #[] #[.pointer (some ⟨Bs, ob, none⟩)]] w fun e W' => ∃ v, e = .returned v ∧ W'.ownsRow w.heap.size 3 1 v zs.length (zs.map (Value.int .i64)) ∧ (v = .slice none 0 0 ↔ zs = []) ∧ Below w.heap.size w W' := by
 have h1 : 1 ≤ n := by omega
 obtain ⟨i0, hi, hz0, hz1, hz2⟩ := info_parts Zx2;refine callsIn_of_wp_marks Tryz.func248 rfl h3 ?_ hro;simp only [Tryz.ntmps248, List.size_toArray, List.length_cons, List.length_nil, Nat.reduceAdd, Nat.reduceSub, Array.replicate_succ, Array.replicate_zero, List.push_toArray, List.append_toArray, List.nil_append, List.cons_append]
 gi_wp2
 have bO := Boxed.new w 38 (.slice none 0 0);have hB0 : Below w.heap.size w (w.alloc (.cells #[.slice none 0 0] 38)) := (Below.refl _ w).alloc (Nat.le_refl _) _;refine wpIn_rangeFunc_ownG hro h1 (gf := 220) (lb := #[.pointer (some ⟨Bs, ob, none⟩)]) rfl h5 (enters_of Tryz.func220 (by kernel_rfl) rfl)
  (Zus F (n - 1) h5 hro (by omega) Bs ob w.heap.size sv zs hbytes _ (by simp; omega) (by simp) ((hB0.cell (p := ⟨Bs, ob, none⟩) hBs).trans hc) (hI.below hB0)) belowK_t (belowK_b (by simp)) (Below.refl _ _) (fun _ => rfl)
  (fun pre W => (∃ v, Boxed W w.heap.size 38 v ∧ W.ownsRow w.heap.size 3 1 v pre.length (pre.map (Value.int .i64)) ∧ (v = .slice none 0 0 ↔ pre = [])) ∧ Below w.heap.size w W)
  (fun _ _ _ => False)
  (OwnFrom.and (Own.from (holdsRow_own w.heap.size w.heap.size 38 3 1 (fun pre => pre.length) (fun pre => pre.map (Value.int .i64)) (fun pre v => v = .slice none 0 0 ↔ pre = [])) _) (ownFrom_below (Nat.le_refl _) (by simp)))
  (fun _ _ _ _ _ hs _ _ => hs)
  ⟨⟨_, bO, World.ownsRow_nil _ _ _ _, by simp⟩, hB0⟩
  (fun x => { tmps := #[.slice none 0 0, .func (.func 220) #[] #[.pointer (some ⟨Bs, ob, none⟩)], .pointer (some ⟨w.heap.size, 0, none⟩), undef, .slice none 0 0, .int .i64 x, .func (.func 220) #[] #[.pointer (some ⟨Bs, ob, none⟩)], .int .i64 x, undef, undef, undef, undef, undef], defers := [] }) ?assign ?body ?done ?stop
 case assign =>
  intro l x W K hK
  gi_wp2
  exact hK
 case body =>
  rintro l pre x W ⟨⟨v, hv, hrow, hnil⟩, hB⟩ hlt;have hc := hv.cell
  gi_wp2_with (gi_at_builtin; refine wpListIn_append_own _ rfl _ _ 38 rfl w.heap.size 3 i0 (.int .i64 0) 1 8 Tryz.underlying38 hi hz0 hz1 hz2 rfl (by decide) _ _ _ rfl (hrow.alloc _) ⟨W.heap.size, 0, none⟩ 1 1 [.int .i64 x] rfl rfl (cell_one_new _ _ _) (by simp [Value.oneCell']) (by omega) (by omega) (by have := hB.size; simp; omega) ?_; intro v' w1 hown' hgrow _; obtain ⟨g', cap', rfl⟩ := ownsRow_succ hown'; obtain ⟨hv1, hv2, hr2, hk2, hb2⟩ := hv.appended (by decide) hrow hB.size (Nat.le_refl _) hown' hgrow; have hc1 := hv1.cell; have hf1 := hv1.frozen)
  exact ⟨hk2.from _, hb2, ⟨_, hv2, by simpa using hr2, by simp⟩, hB.trans hb2⟩
 case done =>
  rintro D ys W hD rfl ⟨⟨v, hv, hrow, hnil⟩, hB⟩ hK;have hc := hv.cell
  gi_wp2
  refine ⟨by simp, .inl ⟨_, _, rfl, run_takeDeferred hK, ?_⟩⟩;exact ⟨_, results_tmp rfl _ _ _, v, rfl, ownsRow_putObj hrow _ hK rfl, hnil, hB.trans (belowK_b (w := w) (Nat.le_refl _) W D _ _ (by simp at hD; omega) hK rfl rfl)⟩
 case stop =>
  rintro D c pre W _ _ h _;exact h.elim
end Go.Proofs.YtjjbhjnpeenbkaaGreatDoor
namespace Go.Proofs.YtjjbhjnpeenbkaaGreatDoor
open Go Go.Proofs Go.RowKit Go.Shelf Go.Sort
attribute [local go_sem] Oper.semAt_some
set_option maxRecDepth 100000 in
theorem Zzy (n : Nat) (hn : 4 ≤ n) (Bs ob : Nat) (sv : Value) (zs : List Int) (hlen : zs.length ≤ maxLen) (hbytes : zs.length * 8 ≤ 140737488351232) (w : World)
  (hBs : Bs < w.heap.size) (hc : w.cell? ⟨Bs, ob, none⟩ = some sv) (hI : Zgl w.heap.size w sv zs) :
  CallsIn Fence.wide n Tryz.prog 218 #[.func (.func 220) #[] #[.pointer (some ⟨Bs, ob, none⟩)]] w fun e W' => ∃ v, e = .returned v ∧ W'.ownsRow w.heap.size 3 1 v zs.length (zs.map (Value.int .i64)) ∧ (v = .slice none 0 0 ↔ zs = []) ∧ Below w.heap.size w W' := by
 have h1 : 1 ≤ n := by omega
 have hF : Fence.wide.fn 248 := trivial;refine callsIn_of_wp Tryz.func218 rfl trivial ?_ rfl;simp only [Tryz.ntmps218, List.size_toArray, List.length_cons, List.length_nil, Nat.reduceAdd, Nat.reduceSub, Array.replicate_succ, Array.replicate_zero, List.push_toArray, List.append_toArray, List.nil_append, List.cons_append]
 gi_wp2_with (gi_at_call 248; refine (Zye Fence.wide (n - 1) trivial trivial rfl (by omega) Bs ob sv zs hlen hbytes w hBs hc hI).mono ?_; rintro e w' ⟨v, rfl, hrow, hnil, hb⟩)
 go_ret
 exact ⟨v, rfl, hrow, hnil, hb⟩
set_option maxRecDepth 100000 in
theorem ZtM (n : Nat) (hn : 5 ≤ n) (Bs ob : Nat) (sv : Value) (zs : List Int) (hlen : zs.length ≤ maxLen) (hbytes : zs.length * 8 ≤ 140737488351232) (w : World)
  (hBs : Bs < w.heap.size) (hc : w.cell? ⟨Bs, ob, none⟩ = some sv) (hI : Zgl w.heap.size w sv zs) :
  CallsIn Fence.wide n Tryz.prog 175 #[.func (.func 220) #[] #[.pointer (some ⟨Bs, ob, none⟩)]] w fun e W' => ∃ v, e = .returned v ∧ W'.ownsRow w.heap.size 3 1 v zs.length ((ZaG zs).map (Value.int .i64)) ∧ Below w.heap.size w W' := by
 have h1 : 1 ≤ n := by omega
 have hF1 : Fence.wide.fn 218 := trivial;have hF2 : Fence.wide.fn 219 := trivial;refine callsIn_of_wp Tryz.func175 rfl trivial ?_ rfl;simp only [Tryz.ntmps175, List.size_toArray, List.length_cons, List.length_nil, Nat.reduceAdd, Nat.reduceSub, Array.replicate_succ, Array.replicate_zero, List.push_toArray, List.append_toArray, List.nil_append, List.cons_append]
 gi_wp2_with (gi_at_call 218; refine (Zzy (n - 1) (by omega) Bs ob sv zs hlen hbytes w hBs hc hI).mono ?_; rintro e W ⟨v, rfl, hrow, hnil, hb⟩)
 rcases hrow.2 with ⟨rfl, hz⟩ | ⟨gb, cap, cur, rfl, hbase, hgb, r1, r2, r3, r4⟩
 ·have hss : zs = [] := List.eq_nil_of_length_eq_zero hz;subst hss
  gi_wp2_with (gi_at_call 219; refine (callsIn_wide.2 (Any.slices_Sort_int_none Tryz.laysSort none 0 W)).mono ?_; rintro e w' ⟨rfl, rfl⟩)
  go_ret
  exact ⟨.slice none 0 0, rfl, by simpa [ZaG] using hrow, hb⟩
 ·have hH : Holds (Value.int .i64) W gb 0 zs.toArray := holds_of_blockI hgb (by simpa using r4);have hgl : gb < W.heap.size := (Array.getElem?_eq_some_iff.1 hgb).1;have hsz : zs.length < 4611686018427387904 := by omega
  have cS := Any.slices_Sort_int Tryz.laysSort gb 0 cap zs W hH hgl hsz
  gi_wp2_with (gi_at_call 219; refine (callsIn_wide.2 cS).mono ?_; rintro e w' ⟨rfl, nn, os, rfl⟩)
  go_ret
  exact ⟨_, rfl, ownsRow_sortedI (by simp) hbase hgb r1 r2 r3, hb.grown (grownBy_sortedI _) hb.size (fun j hj => by cases hj; exact hbase)⟩
end Go.Proofs.YtjjbhjnpeenbkaaGreatDoor
namespace Go.Proofs.YtjjbhjnpeenbkaaGreatDoor
open Go Go.PS Go.Proofs
set_option maxRecDepth 100000
theorem Zyv {w : World} {X : Nat → Prop} {l : List Int} {v : Value} (h : D.At w X (Zac l) v) : Zgl w.heap.size w v l := by
 generalize hd : Zac l = d at h;cases h with
 | sc => cases hd
 | ag => cases hd
 | tup => cases hd
 | pt => cases hd
 | fn => cases hd
 | slnil base cap =>
  simp only [Zac, D.sl.injEq, List.map_eq_nil_iff] at hd;exact .inl ⟨base, cap, rfl, hd⟩
 | sl L b off cap sz hl hc hsz vals hv hat =>
  simp only [Zac, D.sl.injEq] at hd;subst hd;rcases Nat.eq_zero_or_pos l.length with h0 | h0
  ·have : l = [] := List.length_eq_zero_iff.1 h0;subst this;exact .inl ⟨_, cap, rfl, rfl⟩
  ·have hs1 : sz = 1 := by
    have := hsz (D.int l[0]) (List.mem_map.2 ⟨l[0], List.getElem_mem h0, rfl⟩);simpa [D.cells] using this.symm
   subst hs1;have key : ∀ j, j < l.length → w.cell? ⟨b, off + j, none⟩ = some (.int .i64 (l[j]?.getD 0)) := by
    intro j hj;have hi : (l.map D.int)[j]? = some (D.int l[j]) := by rw [List.getElem?_map, List.getElem?_eq_getElem hj]; rfl
    have h1 := hv j _ 0 (D.int l[j]) hi rfl;have h2 := hat j _ 0 (D.int l[j]) hi rfl;rw [Nat.mul_one, Nat.add_zero] at h1;generalize vals j 0 = x at h1 h2;cases h2;rw [h1.1, List.getElem?_eq_getElem hj]; rfl
   refine .inr ⟨b, off, cap, by rw [List.length_map], ?_, key⟩;have := key 0 h0;rw [Nat.add_zero] at this;exact ZhW this
theorem ZlU (l : List Int) (hl : l.length * 8 ≤ 140737488351232) : Zaa Tryz.prog 175 [.fn 220 [.pt [Zac l]]] (Zac (ZaG l)) := by
 refine ⟨⟨_, Tryz.func175, rfl, by decide +kernel⟩, fun w X vs hX hat _ => ?_⟩;obtain ⟨hsz, hat⟩ := hat;obtain ⟨v, rfl⟩ : ∃ v, vs = #[v] := by
  have : vs.size = 1 := hsz;refine ⟨vs[0], Array.ext (by simp [this]) fun i h1 h2 => ?_⟩;have : i = 0 := by simp at h2; omega
  subst this; rfl
 have hv := hat 0 _ v rfl rfl;cases hv with
 | fn _ _ arr hasz harr =>
  obtain ⟨x, rfl⟩ : ∃ x, arr = #[x] := by
   have : arr.size = 1 := hasz;refine ⟨arr[0], Array.ext (by simp [this]) fun i h1 h2 => ?_⟩;have : i = 0 := by simp at h2; omega
   subst this; rfl
  have hx := harr 0 _ x rfl rfl;cases hx with
  | pt _ b off vals hpv hpat =>
   have h1 := hpv 0 _ rfl;have h2 := hpat 0 _ rfl;rw [Nat.add_zero] at h1;have hI := Zyv h2;refine (callsIn_wide.1 (ZtM 5 (by omega) b off (vals 0) l (by simp only [maxLen]; omega) (by omega) w (ZhW h1.1) h1.1 hI)).mono ?_;rintro e w' ⟨v, rfl, hrow, hb⟩;refine ⟨v, rfl, ?_, hb⟩;obtain ⟨hlen, hrow⟩ := hrow;rcases hrow with ⟨rfl, hz⟩ | ⟨g, cap, cur, rfl, hbase, hgb, r1, r2, r3, r4⟩
   ·have hss : l = [] := List.eq_nil_of_length_eq_zero hz;subst hss;rw [show Zac (ZaG []) = .sl [] by simp [ZaG]];exact .slnil _ _
   ·have hcell : ∀ i z, (ZaG l)[i]? = some z → w'.cell? ⟨g, i, none⟩ = some (.int .i64 z) := by
     intro i z hz;have hil := (List.getElem?_eq_some_iff.1 hz).1;rw [ZnZ] at hil;have h3 := congrArg (fun t : List Value => t[i]?) r4;simp only [List.getElem?_map, hz, Option.map_some] at h3;rw [List.getElem?_take_of_lt (by omega), Array.getElem?_toList] at h3;rw [ZcD hgb]; exact h3
    have hlen2 : (intsL (ZaG l)).length = l.length := by rw [List.length_map, ZnZ]
    rw [← hlen2];refine .sl _ g 0 cap 1 (by rw [hlen2]; exact r1) r2 (fun d hd => by obtain ⟨z, _, rfl⟩ := List.mem_map.1 hd; rfl) (fun i _ => .int .i64 (((ZaG l)[i]?).getD 0)) (fun i d j c hi hj => ?_) (fun i d j c hi hj => ?_)
    ·rw [List.getElem?_map] at hi;cases hz : (ZaG l)[i]? with
     | none => rw [hz] at hi; cases hi
     | some z =>
      rw [hz] at hi;simp only [Option.map_some, Option.some.injEq] at hi;subst hi;cases j with
      | succ j => simp [D.cells] at hj
      | zero => exact ⟨by rw [Nat.mul_one, Nat.add_zero, Nat.zero_add]; exact hcell i z hz, rfl, fun hx => by have := hX g hx; omega⟩
    ·rw [List.getElem?_map] at hi;cases hz : (ZaG l)[i]? with
     | none => rw [hz] at hi; cases hi
     | some z =>
      rw [hz] at hi;simp only [Option.map_some, Option.some.injEq] at hi;subst hi;cases j with
      | succ j => simp [D.cells] at hj
      | zero =>
       simp only [D.cells, List.getElem?_cons_zero, Option.some.injEq] at hj;subst hj;exact .sc _ rfl
theorem ZkO (l : List Int) : Zaa Tryz.prog 176 [Zac l] (.fn 220 [.pt [Zac l]]) := by
 refine kE Tryz.func176 ?_;intro hat B X w0;refine kw1 kO kc0 kc0 ?_;rfl
end Go.Proofs.YtjjbhjnpeenbkaaGreatDoor
namespace Go.Proofs.YtjjbhjnpeenbkaaGreatDoor
open Go Go.PS Go.Proofs
set_option maxRecDepth 100000
attribute [local irreducible] Zab wpG Zaa Zaf

def at0 (r : List Int) (v : Int) : Int := (r[v.toNat]?).getD 0
theorem Zey {r : List Int} {v : Int} (h1 : 0 ≤ v) (h2 : v < r.length) : r[v.toNat]? = some (at0 r v) := by
 obtain ⟨x, hx⟩ := Zad (show v.toNat < r.length by omega);rw [at0, hx]; rfl
theorem ZaW {r : List Int} {i : Nat} (h : i < r.length) : r[i]? = some (at0 r i) := by
 obtain ⟨x, hx⟩ := Zad h;rw [at0, Int.toNat_natCast, hx]; rfl
def Zch (l : List Int) : Nat → Int
 | 0 => at0 l 0
 | k + 1 => max (Zch l k) (at0 l ((k + 1 : Nat) : Int))
theorem Zhc (l : List Int) : ∀ (k j : Nat), j ≤ k → at0 l j ≤ Zch l k
 | 0, j, h => by rw [show j = 0 by omega]; exact Int.le_refl _
 | k + 1, j, h => by
  rw [Zch];rcases Nat.lt_or_ge j (k + 1) with h1 | h1
  ·have := Zhc l k j (by omega); omega
  ·rw [show j = k + 1 by omega]; omega
theorem Zj5 {l : List Int} {m : Int} (h : ∀ j : Nat, at0 l j ≤ m) : ∀ k, Zch l k ≤ m
 | 0 => h 0
 | k + 1 => by rw [Zch]; have := Zj5 h k; have := h (k + 1); omega
theorem Zkq (a b : Int) : (if a < b then b else a) = max a b := by omega
theorem ZyL (l : List Int) (hl : 0 < l.length) : Zaa Tryz.prog 102 [Zac l] (.int (Zch l (l.length - 1))) := by
 refine kE Tryz.func102 ?_;intro hat B X w0;have hll := Zbi 0 hat rfl;rw [List.length_map] at hll;have g0 := ZaW hl;refine kw1 kO (kc1 g0) kc0 ?_;refine Zai (fun (k : Nat) => k + 1 ≤ l.length) (fun k => [(0, .d (Zac l)), (3, .int (Zch l k)), (4, .int ((k : Int) + 1))]) (fun k => []) (fun k => l.length - k) 0 ?_ ?_ ?_
 ·omega
 ·exact kN (kc1 @Zch.eq_1) []
 ·intro k hk;rcases Nat.lt_or_ge (k + 1) l.length with hlt | hge
  ·have gk := ZaW hlt;have e : (((k : Int) + 1)).toNat = k + 1 := by omega
   refine kw1 kO (kc3 gk e @Zkq) kc0 ?_;refine ⟨k + 1, ?_, kN (kc3 @Zch.eq_1 @Int.natCast_add @Int.natCast_one) [], ?_⟩
   ·omega
   ·omega
  ·refine kw1 kO kc0 kc0 ?_;have : l.length - 1 = k := by omega
   rw [this]; rfl

abbrev Lv := Int × List (List Int) × List Arc × List (List Int)
abbrev lvD (v : Lv) : D := .ag [.int v.1, Zae v.2.1, Zak v.2.2.1, Zae v.2.2.2]
def lv0 : Lv := (0, [], [], [])
def ZaX (all : List Int) (k : Nat) : List Int := ((List.range all.length).filter fun v => decide (all[v]? = some (k : Int))).map fun v : Nat => (v : Int)
theorem ZmL (all : List Int) (x : Int) (k : Nat) : ZaX (all ++ [x]) k = if x = k then ZaX all k ++ [(all.length : Int)] else ZaX all k := by
 rw [ZaX, List.length_append, List.length_singleton, List.range_succ, List.filter_append, List.map_append];have e : (List.range all.length).filter (fun v => decide ((all ++ [x])[v]? = some (k : Int))) = (List.range all.length).filter fun v => decide (all[v]? = some (k : Int)) := by
  refine List.filter_congr fun v hv => ?_
  rw [List.getElem?_append_left (List.mem_range.1 hv)]
 rw [e];by_cases h : x = k
 ·rw [if_pos h]; simp [ZaX, h]
 ·rw [if_neg h]; simp [ZaX, h]
theorem Zl0 (all : List Int) (k : Nat) : (ZaX all k).length ≤ all.length := by
 rw [ZaX, List.length_map];exact Nat.le_trans (List.length_filter_le _ _) (by simp)
def ZaC (r : List Int) (a : Arc) : Nat := (at0 r a.2 - at0 r a.1 - 1).toNat
def Zal (r : List Int) (a : Arc) (i : Nat) : List Int := (List.range i).map fun j : Nat => at0 r a.1 + 1 + j
theorem ZqU (r : List Int) (a : Arc) (i : Nat) : Zal r a (i + 1) = Zal r a i ++ [at0 r a.1 + 1 + i] := by simp [Zal, List.range_succ]
theorem Zf8 (r : List Int) (a : Arc) (i : Nat) : (Zal r a i).length = i := by simp [Zal]
def Zaz (r : List Int) (l : List Arc) (e : Nat) : List Int := r ++ (l.take e).flatMap fun a => Zal r a (ZaC r a)
theorem Zip {r : List Int} {l : List Arc} {e : Nat} {a : Arc} (h : l[e]? = some a) : Zaz r l (e + 1) = Zaz r l e ++ Zal r a (ZaC r a) := by
 simp [Zaz, ZaD h]
def Zcm (n0 : Nat) (a : Arc) (i : Nat) : List Int := a.1 :: (List.range i).map fun j : Nat => ((n0 + j : Nat) : Int)
theorem ZnA (n0 : Nat) (a : Arc) (i : Nat) : Zcm n0 a (i + 1) = Zcm n0 a i ++ [((n0 + i : Nat) : Int)] := by simp [Zcm, List.range_succ]
theorem ZgV (n0 : Nat) (a : Arc) (i : Nat) : (Zcm n0 a i).length = i + 1 := by simp [Zcm]
def ZaB (r : List Int) (n0 : Nat) (a : Arc) : List Int := Zcm n0 a (ZaC r a) ++ [a.2]
theorem ZlD (r : List Int) (n0 : Nat) (a : Arc) : (ZaB r n0 a).length = ZaC r a + 2 := by simp [ZaB, ZgV]
def Zgm (c : List Int) (j : Nat) : Arc := (at0 c j, at0 c ((j + 1 : Nat) : Int))
def ZbI (c : List Int) (j : Nat) : List Arc := (List.range j).map (Zgm c)
theorem ZoO (c : List Int) (j : Nat) : ZbI c (j + 1) = ZbI c j ++ [Zgm c j] := by simp [ZbI, List.range_succ]
theorem ZmF (c : List Int) (j : Nat) : (ZbI c j).length = j := by simp [ZbI]
def Zid (r : List Int) (l : List Arc) (e : Nat) : List (List Int) := match l[e]? with
 | some a => [ZaB r (Zaz r l e).length a]
 | none => []
def Za1 (r : List Int) (l : List Arc) (e : Nat) : List (List Int) := Zbp (Zid r l) e
def Ziz (r : List Int) (l : List Arc) (e : Nat) : List Arc := match l[e]? with
 | some a => ZbI (ZaB r (Zaz r l e).length a) (ZaC r a + 1)
 | none => []
def ZaT (r : List Int) (l : List Arc) (e : Nat) : List Arc := Zbp (Ziz r l) e
def Zd5 (g : Gr) (r : List Int) : Lv :=
 (g.1, if g.1 = 0 then [] else (List.range (Zch r (r.length - 1) + 1).toNat).map fun k => ZaX (Zaz r g.2 g.2.length) k, ZaT r g.2 g.2.length, Za1 r g.2 g.2.length)
def Za0 (r : List Int) (l : List Arc) : Nat → Int
 | 0 => 0
 | k + 1 => Za0 r l k + match l[k]? with | some a => at0 r a.2 - at0 r a.1 - 1 | none => 0
def Zco (r : List Int) (a : Arc) : Bool := decide (at0 r a.2 - at0 r a.1 - 1 < 0)
def Zdr (g : Gr) (r : List Int) : Bool := gOk g && decide ((r.length : Int) = g.1) && !r.any ZcG
def ZaI (g : Gr) (r : List Int) : Lv × Int :=
 if Zdr g r = false then (lv0, 1) else if g.2.any Zc6 then (lv0, 8) else if g.2.any (Zco r) then (lv0, 3)
 else if 512 < g.1 + Za0 r g.2 g.2.length then (lv0, 2) else (Zd5 g r, 0)
theorem ZjG {g : Gr} {r : List Int} (h : Zdr g r = true) : gOk g = true ∧ (r.length : Int) = g.1 ∧ r.any ZcG = false ∧ ∀ v : Nat, 0 ≤ at0 r v ∧ at0 r v ≤ 255 := by
 simp only [Zdr, Bool.and_eq_true, decide_eq_true_eq, Bool.not_eq_true'] at h;obtain ⟨⟨h1, h2⟩, h3⟩ := h;refine ⟨h1, h2, h3, fun v => ?_⟩;rw [at0];cases hx : r[((v : Nat) : Int).toNat]? with
 | none => simp
 | some x =>
  simp only [List.any_eq_false] at h3;have := h3 x (List.mem_of_getElem? hx);simp only [ZcG, decide_eq_true_eq] at this;dsimp only [Option.getD_some];omega
theorem Zsq (g : Gr) (r : List Int) (h : Zdr g r = false) : Zaa Tryz.prog 49 [gD g, Zac r] (.tup [lvD lv0, .int 1]) := by
 have hv := ZfA g;have hc := ZjH r 99 ZcG ZlB;rcases h1 : gOk g with _ | _ <;> rw [h1] at hv
 ·refine kE Tryz.func49 ?_;intro hat B X w0;refine kw1 kO kc0 (kc1 hv) ?_
  all_goals
   refine ⟨_, rfl, ⟨_, _, _, _, rfl, ?_⟩, Zah ?_, trivial⟩
   ·simp (disch := omega) only [go_sem, simprocAttr, toD];rfl
   ·rfl
 ·by_cases h2 : (r.length : Int) = g.1
  ·have h3 : r.any ZcG = true := by simpa [Zdr, h1, h2] using h
   rw [h3] at hc;refine kE Tryz.func49 ?_;intro hat B X w0;have hl := Zbi 1 hat rfl;rw [List.length_map] at hl;refine kw1 kO (kc1 h2) (kc2 hv hc) ?_
   all_goals
    refine ⟨_, rfl, ⟨_, _, _, _, rfl, ?_⟩, Zah ?_, trivial⟩
    ·simp (disch := omega) only [go_sem, simprocAttr, toD];rfl
    ·rfl
  ·refine kE Tryz.func49 ?_;intro hat B X w0;have hl := Zbi 1 hat rfl;rw [List.length_map] at hl;refine kw1 kO (kc1 h2) (kc2 hv hc) ?_
   all_goals
    refine ⟨_, rfl, ⟨_, _, _, _, rfl, ?_⟩, Zah ?_, trivial⟩
    ·simp (disch := omega) only [go_sem, simprocAttr, toD];rfl
    ·rfl
theorem ZyZ (g : Gr) (r : List Int) (h : Zdr g r = true) (h4 : g.2.any Zc6 = true) : Zaa Tryz.prog 49 [gD g, Zac r] (.tup [lvD lv0, .int 8]) := by
 have hv := ZfA g;have hc := ZjH r 99 ZcG ZlB;have hd := Zo7 g.2 101 Zc6 Zrr;obtain ⟨h1, h2, h3, h5⟩ := ZjG h;rw [h1] at hv;rw [h3] at hc;rw [h4] at hd;refine kE Tryz.func49 ?_;intro hat B X w0;have hl := Zbi 1 hat rfl;rw [List.length_map] at hl;refine kw1 kO (kc1 h2) (kc3 hv hc hd) ?_
 all_goals
  refine ⟨_, rfl, ⟨_, _, _, _, rfl, ?_⟩, Zah ?_, trivial⟩
  ·simp (disch := omega) only [go_sem, simprocAttr, toD];rfl
  ·rfl
theorem ZkC {r : List Int} {l : List Arc} (h5 : ∀ v : Nat, 0 ≤ at0 r v ∧ at0 r v ≤ 255) (hin : ∀ (k : Nat) a, l[k]? = some a → 0 ≤ a.1 ∧ 0 ≤ a.2) : ∀ k : Nat, -(256 * (k : Int)) ≤ Za0 r l k ∧ Za0 r l k ≤ 256 * (k : Int)
 | 0 => by simp [Za0]
 | k + 1 => by
  have ih := ZkC h5 hin k;cases ha : l[k]? with
  | none => simp only [Za0, ha]; omega
  | some a =>
   have h1 := hin k a ha;have e1 := h5 a.1.toNat;have e2 := h5 a.2.toNat;rw [show ((a.1.toNat : Nat) : Int) = a.1 by omega] at e1;rw [show ((a.2.toNat : Nat) : Int) = a.2 by omega] at e2;have e : Za0 r l (k + 1) = Za0 r l k + (at0 r a.2 - at0 r a.1 - 1) := by rw [Za0, ha]
   rw [e];generalize at0 r a.2 = x at *;generalize at0 r a.1 = y at *;omega
theorem Zkh {r : List Int} {l : List Arc} (hgap : ∀ (k : Nat) a, l[k]? = some a → 0 ≤ at0 r a.2 - at0 r a.1 - 1) : ∀ e, e ≤ l.length → ((Zaz r l e).length : Int) = r.length + Za0 r l e := by
 intro e
 induction e with
 | zero => intro _; simp [Zaz, Za0]
 | succ e ih =>
  intro he;obtain ⟨a, ha⟩ := Zad (show e < l.length by omega);have h1 := hgap e a ha;have e1 : Za0 r l (e + 1) = Za0 r l e + (at0 r a.2 - at0 r a.1 - 1) := by rw [Za0, ha]
  rw [Zip ha, List.length_append, Zf8, e1, ZaC];have := ih (by omega);omega
theorem ZpV {r : List Int} {l : List Arc} (hgap : ∀ (k : Nat) a, l[k]? = some a → 0 ≤ at0 r a.2 - at0 r a.1 - 1) : ∀ (m e : Nat), e ≤ m → Za0 r l e ≤ Za0 r l m := by
 intro m
 induction m with
 | zero => intro e he; rw [show e = 0 by omega]; exact Int.le_refl _
 | succ m ih =>
  intro e he;rcases Nat.lt_or_ge e (m + 1) with h | h
  ·have := ih e (by omega);cases ha : l[m]? with
   | none => have e1 : Za0 r l (m + 1) = Za0 r l m + 0 := by rw [Za0, ha]
             omega
   | some a =>
    have e1 : Za0 r l (m + 1) = Za0 r l m + (at0 r a.2 - at0 r a.1 - 1) := by rw [Za0, ha]
    have := hgap m a ha;omega
  ·rw [show e = m + 1 by omega]; exact Int.le_refl _
theorem Zjj {r : List Int} {l : List Arc} (hgap : ∀ (k : Nat) a, l[k]? = some a → 0 ≤ at0 r a.2 - at0 r a.1 - 1) : ∀ e, e ≤ l.length → (ZaT r l e).length + r.length = (Zaz r l e).length + e := by
 intro e
 induction e with
 | zero => intro _; simp [ZaT, Zbp, Zaz]
 | succ e ih =>
  intro he;obtain ⟨a, ha⟩ := Zad (show e < l.length by omega);have := ih (by omega);simp only [ZaT, Zbp, List.length_append] at this ⊢;rw [Zip ha, List.length_append, Zf8, Ziz, ha];dsimp only;rw [ZmF];omega
theorem Zkf (r : List Int) (l : List Arc) : ∀ e, e ≤ l.length → (Za1 r l e).length = e := by
 intro e
 induction e with
 | zero => intro _; simp [Za1, Zbp]
 | succ e ih =>
  intro he;obtain ⟨a, ha⟩ := Zad (show e < l.length by omega);have := ih (by omega);simp only [Za1, Zbp, List.length_append] at this ⊢;rw [Zid, ha];dsimp only [List.length_cons, List.length_nil];omega
theorem Zxj (g : Gr) (r : List Int) (h : Zdr g r = true) (h4 : g.2.any Zc6 = false) : Zaa Tryz.prog 49 [gD g, Zac r] (.tup [lvD (ZaI g r).1, .int (ZaI g r).2]) := by
 have hv := ZfA g;have hc := ZjH r 99 ZcG ZlB;have hd := Zo7 g.2 101 Zc6 Zrr;obtain ⟨h1, h2, h3, h5⟩ := ZjG h;have hbf : ZaI g r = if g.2.any (Zco r) then (lv0, 3) else if 512 < g.1 + Za0 r g.2 g.2.length then (lv0, 2) else (Zd5 g r, 0) := by
  rw [ZaI, h, h4]; simp
 obtain ⟨g1, g2, g3, g4⟩ := ZhR h1;rw [h1] at hv;rw [h3] at hc;rw [h4] at hd;obtain ⟨m, l⟩ := g;dsimp only at g1 g2 g3 g4 h2 hd hbf;obtain ⟨n, rfl⟩ : ∃ n : Nat, m = n := ⟨m.toNat, by omega⟩;have hrn : r.length = n := by omega
 have hsum := ZkC (r := r) (l := l) h5 (fun k a ha => by have := g4 k a ha; omega);refine kE Tryz.func49 ?_;intro hat B X w0;refine kw1 kO (kc1 hrn) (kc3 hv hc hd) ?_;refine Zai (fun (k : Nat) => k ≤ l.length ∧ ∀ (j : Nat) y, j < k → l[j]? = some y → Zco r y = false) (fun k => [(1, .d (Zac r)), (2, .ptr 2 0 0 0), (4, .ptr 4 0 0 0), (6, .int (n + Za0 r l k)), (41, .d (Zak l)), (42, .int l.length), (43, .int k)]) (fun k => [(2, .cells [.int n, .d (Zak l)]), (4, .cells [.int 0, .nilS, .nilS, .nilS])]) (fun k => l.length - k) 0 ?_ ?_ ?_
 ·exact ⟨Nat.zero_le _, fun j y h => by omega⟩
 ·exact kN (kc2 @Za0.eq_1 @Int.add_zero) []
 ·rintro k ⟨hk, hinv⟩;have hsk := hsum k;rcases Nat.lt_or_ge k l.length with hlt | hge
  ·obtain ⟨a, ha⟩ := Zad hlt;have hai := g4 k a ha;have e1 := Zey (r := r) (v := a.1) hai.1 (by omega);have e2 := Zey (r := r) (v := a.2) hai.2.2.1 (by omega);have f1 := h5 a.1.toNat;have f2 := h5 a.2.toNat;rw [show ((a.1.toNat : Nat) : Int) = a.1 by omega] at f1;rw [show ((a.2.toNat : Nat) : Int) = a.2 by omega] at f2;have hss : Za0 r l (k + 1) = Za0 r l k + (at0 r a.2 - at0 r a.1 - 1) := by rw [Za0, ha]
   rcases hup : Zco r a with _ | _
   ·rw [Zco, decide_eq_false_iff_not] at hup;refine kw1 kO (kc4 ha e1 e2 hrn) kc0 ?_;refine ⟨k + 1, ?_, kN (kc2 hss @Int.add_assoc) [], ?_⟩
    ·exact ⟨by omega, ZbL hinv ha (by rw [Zco, decide_eq_false_iff_not]; exact hup)⟩
    ·omega
   ·have hany : l.any (Zco r) = true := Zc7 ha hup;rw [Zco, decide_eq_true_eq] at hup;rw [hbf, if_pos hany];refine kw1 kO (kc4 ha e1 e2 hrn) kc0 ?_;refine ⟨_, rfl, ⟨_, _, _, _, rfl, ?_⟩, Zah ?_, trivial⟩
    ·simp (disch := omega) only [go_sem, simprocAttr, toD];rfl
    ·rfl
  ·have : k = l.length := by omega
   subst this;have hany : l.any (Zco r) = false := ZdI fun j y hj => hinv j y (by omega)
   rw [hbf, if_neg (by rw [hany]; decide)];by_cases hbig : 512 < (n : Int) + Za0 r l l.length
   ·rw [if_pos hbig];refine kw1 kO kc0 kc0 ?_;refine ⟨_, rfl, ⟨_, _, _, _, rfl, ?_⟩, Zah ?_, trivial⟩
    ·simp (disch := omega) only [go_sem, simprocAttr, toD];rfl
    ·rfl
   ·rw [if_neg hbig];have hgap : ∀ (k : Nat) a, l[k]? = some a → 0 ≤ at0 r a.2 - at0 r a.1 - 1 := fun k a ha => by
     have := List.any_eq_false.1 hany a (List.mem_of_getElem? ha);rw [Zco, decide_eq_true_eq] at this; omega
    rcases Nat.eq_zero_or_pos n with hn0 | hn0
    ·subst hn0;have hl0 : l = [] := by
      cases l with
      | nil => rfl
      | cons a l => have := g4 0 a rfl; omega
     have hr0 : r = [] := List.length_eq_zero_iff.1 hrn;subst hl0 hr0;have hs0 : Za0 [] [] 0 = 0 := rfl;refine kw1 kO (kc1 hs0) kc0 ?_;refine Zai (fun (i : Nat) => True) (fun i => [(1, .d (Zac [])), (2, .ptr 2 0 0 0), (4, .ptr 4 0 0 0), (10, .ptr 10 0 0 0), (80, .d (Zac [])), (81, .int 0), (82, .int i)]) (fun i => [(2, .cells [.int 0, .d (Zak [])]), (4, .cells [.int 0, .nilS, .nilS, .nilS]), (10, .cells [.int 0, .nilS, .nilS, .nilS])]) (fun i => 0) 0 ?_ ?_ ?_
     ·trivial
     ·exact kN kc0 []
     ·intro i _;refine kw1 kO kc0 kc0 ?_;refine Zai (fun (e : Nat) => True) (fun e => [(1, .d (Zac [])), (2, .ptr 2 0 0 0), (4, .ptr 4 0 0 0), (10, .ptr 10 0 0 0), (13, .int 0), (103, .d (Zak [])), (104, .int 0), (105, .int e)]) (fun e => [(2, .cells [.int 0, .d (Zak [])]), (4, .cells [.int 0, .nilS, .nilS, .nilS]), (10, .cells [.int 0, .nilS, .nilS, .nilS])]) (fun e => 0) 0 ?_ ?_ ?_
      ·trivial
      ·exact kN kc0 []
      ·intro e _;refine kw1 kO kc0 kc0 ?_;refine ⟨_, rfl, ⟨_, _, _, _, rfl, ?_⟩, Zah ?_, trivial⟩
       ·simp (disch := omega) only [go_sem, simprocAttr, toD];rfl
       ·rfl
    ·have hmx := ZyL r (by omega);obtain ⟨N, hN⟩ : ∃ N : Nat, Zch r (r.length - 1) = (N : Int) - 1 := ⟨(Zch r (r.length - 1) + 1).toNat, by have := Zhc r (r.length - 1) 0 (by omega); have := h5 0; omega⟩;have hNle := Zj5 (fun j => (h5 j).2) (r.length - 1);have hNge := Zhc r (r.length - 1);have hN0 := hNge 0 (by omega);have h50 := h5 0;rw [hN] at hmx hNle hN0;have hrk : ∀ v : Nat, v < n → at0 r v < N := fun v hv => by have := hNge v (by omega); omega
     have allR_len : ∀ e, e ≤ l.length → (Zaz r l e).length ≤ 512 := fun e he => by
      have h1 := Zkh hgap e he;have h2 := ZpV hgap l.length e he;omega
     refine kw1 kO (kc1 @Int.sub_add_cancel) (kc1 hmx) ?_;refine Zav _ (Zcs 10 2 901 2 rfl rfl rfl) ?_;refine Zav _ (Zcs 10 3 902 1 rfl rfl rfl) ?_;refine Zav _ (ZhU 1 78 1 N rfl (fun i hi => by simp (disch := omega) only [go_sem, simprocAttr, ZiL, ZdH]) (by decide) (by decide)) ?_;refine Zef (fun (i : Nat) => i ≤ n) (fun i => [(1, .d (Zac r)), (2, .ptr 2 0 0 0), (4, .ptr 4 0 0 0), (10, .ptr 10 0 0 0), (80, .d (Zac r)), (81, .int n), (82, .int i)]) (fun i => [⟨1, 78, 1, N, fun k => (ZaX (r.take i) k).map D.int⟩]) (fun i => [(2, .cells [.int n, .d (Zak l)]), (4, .cells [.int 0, .nilS, .nilS, .nilS]), (10, .cells [.int n, .ref 78 1 0 N N, .ref 901 2 0 0 0, .ref 902 1 0 0 0]), (901, .row 2 []), (902, .row 1 [])]) (fun i => n - i) 0 ?_ ?_ ?_
     ·exact Nat.zero_le _
     ·refine kF (kc1 hrn) [] [] ?_;exact kT0 (kc3 @ZaX.eq_1 @List.range_zero @List.filter_nil.{0})
     ·intro i hi;rcases Nat.lt_or_ge i n with hin | hin
      ·have gi := ZaW (r := r) (i := i) (by omega);have f1 := h5 i;have f2 := hrk i hin;obtain ⟨p, hp⟩ : ∃ p : Nat, at0 r i = p := ⟨(at0 r i).toNat, by omega⟩;have hpN : p < N := by omega
       have hstep : ∀ k : Nat, ZaX (r.take (i + 1)) k = if k = p then ZaX (r.take i) k ++ [(i : Int)] else ZaX (r.take i) k := fun k => by
        rw [ZaD gi, ZmL, hp, List.length_take, Nat.min_eq_left (by omega)];by_cases c : k = p
        ·rw [if_pos (by omega), if_pos c]
        ·rw [if_neg (by omega), if_neg c]
       have hll := Zl0 (r.take i) p;rw [List.length_take] at hll;rw [hp] at gi;refine Zav _ (ZeQ _ _ [2, 4, 10, 78, 901, 902] 78 p 900 1 1 N (by first | rfl | (simp (disch := omega) only [go_sem, simprocAttr]; done) | (simp (disch := omega) only [go_sem, simprocAttr]; rfl)) (by first | (simp (disch := omega) only [go_sem, simprocAttr]; done) | (simp (disch := omega) only [go_sem, simprocAttr]; rfl)) (by first | (simp (disch := omega) only [go_sem, simprocAttr]; done) | (simp (disch := omega) only [go_sem, simprocAttr]; rfl)) (fun i hi hne => by simp (disch := omega) only [go_sem, simprocAttr, hne]; (repeat' split) <;> exact .ref _ _ _ _ _ ⟨by simp (disch := omega) only [go_sem, simprocAttr, hne], by simp (disch := omega) only [go_sem, simprocAttr, hne]⟩) (by (repeat' first | refine ZeO ?_ | exact ZeY (ids := [2, 4, 10, 78, 901, 902]) rfl rfl (Nat.le_of_ble_eq_true rfl) | refine Ze0 ?_ | refine ZeD ?_ | refine ZeE ?_ | refine Ze3 ?_ | refine ZeU ?_ | refine Ze5 (by dsimp only; omega) (by dsimp only; omega) (by omega) (by omega) (Nat.le_of_ble_eq_true rfl) ?_); done) rfl rfl rfl) ?_;refine kw1 kO (kc4 gi hrn @List.take_length.{0} @Zat) kc0 ?_;refine ⟨i + 1, ?_, kF kc0 [(fid 1 p, 97)] [] ?_, ?_⟩
       ·omega
       ·exact kT1 (kc7 @hstep @List.map_append.{0,0} @List.length_append.{0} @List.length_map.{0,0} @List.length_cons.{0} @List.length_nil.{0} @Zat) p
       ·omega
      ·have : i = n := by omega
       subst this;have hti : r.take i = Zaz r l 0 := by rw [List.take_of_length_le (by omega)]; simp [Zaz]
       try dsimp only
       rw [hti];refine kw1 kP kc0 kc0 ?_;refine Zef (fun (e : Nat) => e ≤ l.length) (fun e => [(1, .d (Zac r)), (2, .ptr 2 0 0 0), (4, .ptr 4 0 0 0), (10, .ptr 10 0 0 0), (13, .int (Zaz r l e).length), (103, .d (Zak l)), (104, .int l.length), (105, .int e)]) (fun e => [⟨1, 78, 1, N, fun k => (ZaX (Zaz r l e) k).map D.int⟩]) (fun e => [(2, .cells [.int i, .d (Zak l)]), (4, .cells [.int 0, .nilS, .nilS, .nilS]), (10, .cells [.int i, .ref 78 1 0 N N, .ref 901 2 0 (ZaT r l e).length (ZaT r l e).length, .ref 902 1 0 (Za1 r l e).length (Za1 r l e).length]), (901, .row 2 ((ZaT r l e).map ZaY)), (902, .row 1 ((Za1 r l e).map Zac))]) (fun e => l.length - e) 0 ?_ ?_ ?_
       ·exact Nat.zero_le _
       ·refine kF (kc5 @Zaz.eq_1 @List.take_zero.{0} @List.flatMap_nil.{0,0} @List.append_nil.{0} hrn) [] [] ?_;exact kT0 kc0
       ·intro e he;rcases Nat.lt_or_ge e l.length with hel | hel
        ·obtain ⟨a, ha⟩ := Zad hel;have hai := g4 e a ha;have hga := hgap e a ha;have e1 := Zey (r := r) (v := a.1) hai.1 (by omega);have e2 := Zey (r := r) (v := a.2) hai.2.2.1 (by omega);have f1 := h5 a.1.toNat;have f2 := hrk a.2.toNat (by omega);rw [show ((a.1.toNat : Nat) : Int) = a.1 by omega] at f1;rw [show ((a.2.toNat : Nat) : Int) = a.2 by omega] at f2;have hgn : (ZaC r a : Int) = at0 r a.2 - at0 r a.1 - 1 := by rw [ZaC]; omega
         have hall := Zip (r := r) ha;have hal := allR_len e he;generalize hA : Zaz r l e = all at hal hall
         repeat' first | refine ZaK rfl ?_ | refine Zci (Nat.beq 111) Zbr ?_ | (refine ZaM rfl rfl (fun hc => ?_) (fun hc => ?_) <;> try simp only [hcL] at hc) | (refine ZaL _ rfl rfl (fun hc => ?_) (fun hc => ?_) <;> (try simp only [hcL] at hc) <;> try omega) | simp (disch := omega) only [go_sem, simprocAttr, ha, e1, hrn] | apply And.intro | omega | decide +kernel
         refine Zef (fun (u : Nat) => u ≤ ZaC r a) (fun u => [(1, .d (Zac r)), (2, .ptr 2 0 0 0), (4, .ptr 4 0 0 0), (10, .ptr 10 0 0 0), (13, .int (all.length + u)), (15, .ptr 15 0 0 0), (16, .ref 903 1 0 (u + 1) (u + 1)), (17, .int (at0 r a.1 + 1 + u)), (103, .d (Zak l)), (104, .int l.length), (105, .int e)]) (fun u => [⟨1, 78, 1, N, fun k => (ZaX (all ++ Zal r a u) k).map D.int⟩]) (fun u => [(2, .cells [.int i, .d (Zak l)]), (4, .cells [.int 0, .nilS, .nilS, .nilS]), (15, .cells [.int a.1, .int a.2]), (10, .cells [.int i, .ref 78 1 0 N N, .ref 901 2 0 (ZaT r l e).length (ZaT r l e).length, .ref 902 1 0 (Za1 r l e).length (Za1 r l e).length]), (901, .row 2 ((ZaT r l e).map ZaY)), (902, .row 1 ((Za1 r l e).map Zac)), (903, .row 1 ((Zcm all.length a u).map D.int))]) (fun u => ZaC r a - u) 0 ?_ ?_ ?_
         ·exact Nat.zero_le _
         ·refine kF (kc5 @Zcm.eq_1 @Zal.eq_1 @List.range_zero @List.append_nil.{0} hA) [] [(903, 111)] ?_;exact kT0 (kc4 @Zal.eq_1 @List.range_zero @List.append_nil.{0} hA)
         ·intro u hu;rcases Nat.lt_or_ge u (ZaC r a) with hul | hul
          ·obtain ⟨p, hp⟩ : ∃ p : Nat, at0 r a.1 + 1 + u = p := ⟨(at0 r a.1 + 1 + u).toNat, by omega⟩;have hpN : p < N := by omega
           have hlen : (all ++ Zal r a u).length = all.length + u := by rw [List.length_append, Zf8]
           have hstep : ∀ k : Nat, ZaX (all ++ Zal r a (u + 1)) k = if k = p then ZaX (all ++ Zal r a u) k ++ [(all.length : Int) + u] else ZaX (all ++ Zal r a u) k := fun k => by
            rw [ZqU, ← List.append_assoc, ZmL, hp, hlen, Int.natCast_add];by_cases c : k = p
            ·rw [if_pos (by omega), if_pos c]
            ·rw [if_neg (by omega), if_neg c]
           have hll := Zl0 (all ++ Zal r a u) p;have hcl := ZgV all.length a u;have htk : ((Zcm all.length a u).map D.int).take (u + 1) = (Zcm all.length a u).map D.int := List.take_of_length_le (by rw [List.length_map, hcl]; exact Nat.le_refl _);have hcs := ZnA all.length a u;refine Zav _ (ZeQ _ _ [2, 4, 15, 10, 78, 901, 902, 903] 78 p 900 1 1 N (by first | rfl | (simp (disch := omega) only [go_sem, simprocAttr]; done) | (simp (disch := omega) only [go_sem, simprocAttr]; rfl)) (by first | (simp (disch := omega) only [go_sem, simprocAttr]; done) | (simp (disch := omega) only [go_sem, simprocAttr]; rfl)) (by first | (simp (disch := omega) only [go_sem, simprocAttr]; done) | (simp (disch := omega) only [go_sem, simprocAttr]; rfl)) (fun i hi hne => by simp (disch := omega) only [go_sem, simprocAttr, hne]; (repeat' split) <;> exact .ref _ _ _ _ _ ⟨by simp (disch := omega) only [go_sem, simprocAttr, hne], by simp (disch := omega) only [go_sem, simprocAttr, hne]⟩) (by (repeat' first | refine ZeO ?_ | exact ZeY (ids := [2, 4, 15, 10, 78, 901, 902, 903]) rfl rfl (Nat.le_of_ble_eq_true rfl) | refine Ze0 ?_ | refine ZeD ?_ | refine ZeE ?_ | refine Ze3 ?_ | refine ZeU ?_ | refine Ze5 (by dsimp only; omega) (by dsimp only; omega) (by omega) (by omega) (Nat.le_of_ble_eq_true rfl) ?_); done) rfl rfl rfl) ?_;refine kw1 kO (kc7 e2 hp hrn @List.take_length.{0} @Zat hcl htk) kc0 ?_;refine ⟨u + 1, ?_, eF [(fid 1 p, 137)] [(903, 142)] _ _ _ (by refine ⟨?_, ?_⟩ <;> (repeat' first | exact fmn | refine fmc ⟨(by first | rfl | (simp (disch := omega) only [go_sem, simprocAttr, inL, hcs, List.map_append, Int.natCast_add, Int.natCast_one, ← Int.add_assoc, hp]; first | done | omega | (congr 1; done))), ?_⟩); done) ?_, ?_⟩
           ·omega
           ·exact kT1 (kc7 @hstep @List.map_append.{0,0} @List.length_append.{0} @List.length_map.{0,0} @List.length_cons.{0} @List.length_nil.{0} @Zat) p
           ·omega
          ·have : u = ZaC r a := by omega
           subst this;have hcl := ZgV all.length a (ZaC r a);have htk : ((Zcm all.length a (ZaC r a)).map D.int).take (ZaC r a + 1) = (Zcm all.length a (ZaC r a)).map D.int := List.take_of_length_le (by rw [List.length_map, hcl]; exact Nat.le_refl _);have hcd : ZaB r all.length a = Zcm all.length a (ZaC r a) ++ [a.2] := rfl;have hcl2 := ZlD r all.length a;refine kw1 kP (kc4 e2 hrn hcl htk) kc0 ?_;refine Zef (fun (j : Nat) => j ≤ ZaC r a + 1) (fun j => [(1, .d (Zac r)), (2, .ptr 2 0 0 0), (4, .ptr 4 0 0 0), (10, .ptr 10 0 0 0), (13, .int (all.length + ZaC r a)), (15, .ptr 15 0 0 0), (16, .ref 903 1 0 (ZaC r a + 2) (ZaC r a + 2)), (18, .int ((j : Int) + 1)), (103, .d (Zak l)), (104, .int l.length), (105, .int e)]) (fun j => [⟨1, 78, 1, N, fun k => (ZaX (all ++ Zal r a (ZaC r a)) k).map D.int⟩]) (fun j => [(2, .cells [.int i, .d (Zak l)]), (4, .cells [.int 0, .nilS, .nilS, .nilS]), (15, .cells [.int a.1, .int a.2]), (10, .cells [.int i, .ref 78 1 0 N N, .ref 901 2 0 (ZaT r l e ++ ZbI (ZaB r all.length a) j).length (ZaT r l e ++ ZbI (ZaB r all.length a) j).length, .ref 902 1 0 (Za1 r l e).length (Za1 r l e).length]), (901, .row 2 ((ZaT r l e ++ ZbI (ZaB r all.length a) j).map ZaY)), (902, .row 1 ((Za1 r l e).map Zac)), (903, .row 1 ((ZaB r all.length a).map D.int))]) (fun j => ZaC r a + 1 - j) 0 ?_ ?_ ?_
           ·exact Nat.zero_le _
           ·refine kF (kc5 hcd @List.map_append.{0,0} @ZbI.eq_1 @List.range_zero @List.append_nil.{0}) [] [(903, 149)] ?_;exact kT0 kc0
           ·intro j hj;have hpl := ZmF (ZaB r all.length a) j;have hafl := Zjj hgap e he;rw [hA] at hafl;rcases Nat.lt_or_ge j (ZaC r a + 1) with hjl | hjl
            ·have gc1 := ZaW (r := ZaB r all.length a) (i := j) (by omega);have gc2 := ZaW (r := ZaB r all.length a) (i := j + 1) (by omega);have en : ((j : Int) + 1).toNat = j + 1 := by omega
             have hps := ZoO (ZaB r all.length a) j;have hpa : ZaY (Zgm (ZaB r all.length a) j) = .ag [.int (at0 (ZaB r all.length a) j), .int (at0 (ZaB r all.length a) ((j + 1 : Nat) : Int))] := rfl;have hap : ZaT r l e ++ ZbI (ZaB r all.length a) (j + 1) = (ZaT r l e ++ ZbI (ZaB r all.length a) j) ++ [Zgm (ZaB r all.length a) j] := by rw [hps, List.append_assoc]
             have hal2 : (ZaT r l e ++ ZbI (ZaB r all.length a) j).length ≤ 2000 := by rw [List.length_append]; omega
             try dsimp only
             generalize ZaB r all.length a = c at *;generalize hG : ZaT r l e ++ ZbI c j = G at *;refine kw1 kO (kc6 gc1 gc2 en hcl2 @Int.add_sub_cancel @Zat) kc0 ?_;refine ⟨j + 1, ?_, kF (kc8 hap @List.map_append.{0,0} @List.length_append.{0} @List.length_cons.{0} @List.length_nil.{0} hpa @Int.natCast_add @Int.natCast_one) [] [(901, 169)] ?_, ?_⟩
             ·omega
             ·exact kT0 kc0
             ·omega
            ·have : j = ZaC r a + 1 := by omega
             subst this;have hcf : Za1 r l (e + 1) = Za1 r l e ++ [ZaB r all.length a] := by rw [Za1, Zbp, Zid, ha, hA]; rfl
             have haf : ZaT r l (e + 1) = ZaT r l e ++ ZbI (ZaB r all.length a) (ZaC r a + 1) := by rw [ZaT, Zbp, Ziz, ha, hA]; rfl
             have hcfl := Zkf r l e he;have hnl := Zf8 r a (ZaC r a);have hcd2 : ((ZaB r all.length a).map D.int).take (ZaC r a + 2) = (ZaB r all.length a).map D.int := List.take_of_length_le (by rw [List.length_map, hcl2]; exact Nat.le_refl _);have hcft : ((Za1 r l e).map Zac).take e = (Za1 r l e).map Zac := List.take_of_length_le (by rw [List.length_map, hcfl]; exact Nat.le_refl _);refine Zav _ (ZrQ _ _ _ 903 1 ((ZaB r all.length a).map D.int) rfl rfl rfl rfl (by decide)) ?_;refine kw1 kO (kc5 hcl2 @List.length_map.{0,0} hcd2 hcfl @Zat) kc0 ?_;refine ⟨e + 1, ?_, kF (kc8 hcf haf hall @List.map_append.{0,0} @List.length_append.{0} @List.length_cons.{0} @List.length_nil.{0} (kc7 hnl @Int.natCast_add @Int.natCast_one hcl2 hcd2 hcfl hcft)) [] [(902, 175)] ?_, ?_⟩
             ·omega
             ·exact kT0 (kc1 hall)
             ·omega
        ·have : e = l.length := by omega
         subst this
         try dsimp only
         refine Zav _ (Zia _ _ _ _ ⟨Zbc rfl, Zbc rfl, (by (repeat' first | exact fmn | refine fmc ⟨⟨Nat.le_of_ble_eq_true rfl, Nat.le_of_ble_eq_true rfl, by dsimp only; omega⟩, ?_⟩); done)⟩ rfl [2, 4, 10, 78, 901, 902] rfl rfl rfl rfl) ?_;refine kw1 kO kc0 kc0 ?_;refine ⟨_, rfl, ⟨_, _, _, _, rfl, ?_⟩, Zah ?_, trivial⟩
         ·simp (disch := omega) only [go_sem, simprocAttr, toD];have hNt : (Zch r (r.length - 1) + 1).toNat = N := by omega
          rw [Zat, Zat, if_pos (by rw [List.length_range]; exact Nat.le_refl _), List.take_of_length_le (by rw [List.length_map, List.length_range]; exact Nat.le_refl _)];simp only [Zd5, lvD, hNt, Zae, Zac, Zak, List.map_map];rw [if_neg (by omega), List.map_map];rfl
         ·rfl
theorem ZpD (g : Gr) (r : List Int) : Zaa Tryz.prog 49 [gD g, Zac r] (.tup [lvD (ZaI g r).1, .int (ZaI g r).2]) := by
 rcases h : Zdr g r with _ | _
 ·have := Zsq g r h;have e : ZaI g r = (lv0, 1) := by rw [ZaI, if_pos h]
  rw [e]; exact this
 ·rcases h4 : g.2.any Zc6 with _ | _
  ·exact Zxj g r h h4
  ·have := ZyZ g r h h4;have e : ZaI g r = (lv0, 8) := by rw [ZaI, if_neg (by rw [h]; decide), if_pos h4]
   rw [e]; exact this
end Go.Proofs.YtjjbhjnpeenbkaaGreatDoor
