/- Facts on the types of this seat's program, as the walk asks for them. -/
import Derived.Test.YtjjbhjnpeenbkaaGreatDoorPSEnd
import Derived.Test.YtjjbhjnpeenbkaaGreatDoorProg
import Derived.KernelRfl
set_option linter.unusedSimpArgs false
set_option linter.unusedVariables false
set_option maxHeartbeats 16000000
namespace Go.Proofs.YtjjbhjnpeenbkaaGreatDoor
open Go Go.PS Go.Proofs
theorem ZcE :Tryz.prog.follows .mixedOrders=true:=by kernel_rfl
theorem wR {B X:Nat->Prop}{w0:W0}{n:Nat}{Q:Exit->St->Prop}{S:St}{id:Nat}{ops:Array Oper}{draw:Bool}(h:Zad Tryz.prog (λ _=>false) ops.toList ops.toList S [] λ S' fs=>Zh5 n ops draw fs.reverse=true/\Q .normal S'):PW Tryz.prog B X w0 n (.region id ops draw) Q S:=ZgH _ ZcE h
@[go_sem] theorem un3 :Tryz.prog.underlying 3=some (.int .i64):=by kernel_rfl
@[go_sem] theorem un5 :Tryz.prog.underlying 5=some (.int .u8):=by kernel_rfl
@[go_sem] theorem un9 :Tryz.prog.underlying 9=some .string:=by kernel_rfl
@[go_sem] theorem ZG4 :Tryz.prog.underlying 168=some (.int .u64):=by kernel_rfl
@[go_sem] theorem ZG5 :Tryz.prog.underlying 230=some (.slice 5):=by kernel_rfl
@[go_sem] theorem ZG6 :Tryz.prog.underlying 274=some (.int .u32):=by kernel_rfl
@[go_sem] theorem ZG7 :Tryz.prog.underlying 276=some (.int .u64):=by kernel_rfl
@[go_sem] theorem ZG8 :Tryz.prog.underlying 292=some (.int .u64):=by kernel_rfl
@[go_sem] theorem ty3 :tyi Tryz.prog 3=⟨1,false,[.int .i64 0],0,0,5,[],8,true,true,false,[],false,false⟩:=by kernel_rfl
@[go_sem] theorem sz3 :Tryz.prog.cellsOf 3=1:=by kernel_rfl
@[go_sem] theorem ty4 :tyi Tryz.prog 4=⟨1,false,[.bool false],0,0,6,[],1,true,true,false,[],false,false⟩:=by kernel_rfl
@[go_sem] theorem sz4 :Tryz.prog.cellsOf 4=1:=by kernel_rfl
@[go_sem] theorem ty5 :tyi Tryz.prog 5=⟨1,false,[.int .u8 0],0,0,5,[],1,true,true,false,[],false,true⟩:=by kernel_rfl
@[go_sem] theorem sz5 :Tryz.prog.cellsOf 5=1:=by kernel_rfl
@[go_sem] theorem ty9 :tyi Tryz.prog 9=⟨1,false,[.string ⟨#[]⟩],0,0,8,[],16,true,true,false,[],false,false⟩:=by kernel_rfl
@[go_sem] theorem sz9 :Tryz.prog.cellsOf 9=1:=by kernel_rfl
@[go_sem] theorem ZGz :tyi Tryz.prog 22=⟨1,false,[.slice none 0 0],66,0,1,[],24,true,true,false,[],false,false⟩:=by kernel_rfl
@[go_sem] theorem ZFK :Tryz.prog.cellsOf 22=1:=by kernel_rfl
@[go_sem] theorem ZGC :tyi Tryz.prog 23=⟨1,false,[.slice none 0 0],61,0,1,[],24,true,true,false,[],false,false⟩:=by kernel_rfl
@[go_sem] theorem ZFN :Tryz.prog.cellsOf 23=1:=by kernel_rfl
@[go_sem] theorem ZGH :tyi Tryz.prog 24=⟨1,false,[.slice none 0 0],94,0,1,[],24,true,true,false,[],false,false⟩:=by kernel_rfl
@[go_sem] theorem ZFS :Tryz.prog.cellsOf 24=1:=by kernel_rfl
@[go_sem] theorem ZDQ :tyi Tryz.prog 26=⟨5,true,[.string ⟨#[]⟩, .bool false, .slice none 0 0, .slice none 0 0, .slice none 0 0],0,0,3,[(0,9),(1,4),(2,22),(3,23),(4,24)],96,true,true,false,[(0,1),(1,1),(2,1),(3,1),(4,1)],true,false⟩:=by kernel_rfl
@[go_sem] theorem ZFW :Tryz.prog.cellsOf 26=5:=by kernel_rfl
@[go_sem] theorem ZGO :tyi Tryz.prog 28=⟨5,true,[.int .i64 0, .int .i64 0, .int .i64 0, .int .i64 0, .int .i64 0],0,0,3,[(0,3),(1,3),(2,3),(3,3),(4,3)],40,true,true,true,[(0,1),(1,1),(2,1),(3,1),(4,1)],true,false⟩:=by kernel_rfl
@[go_sem] theorem ZF0 :Tryz.prog.cellsOf 28=5:=by kernel_rfl
@[go_sem] theorem ZGS :tyi Tryz.prog 31=⟨1,false,[.slice none 0 0],38,0,1,[],24,true,true,false,[],false,false⟩:=by kernel_rfl
@[go_sem] theorem ZF4 :Tryz.prog.cellsOf 31=1:=by kernel_rfl
@[go_sem] theorem ZGT :tyi Tryz.prog 32=⟨1,false,[.slice none 0 0],90,0,1,[],24,true,true,false,[],false,false⟩:=by kernel_rfl
@[go_sem] theorem ZF5 :Tryz.prog.cellsOf 32=1:=by kernel_rfl
@[go_sem] theorem ZGU :tyi Tryz.prog 34=⟨4,true,[.int .i64 0, .slice none 0 0, .slice none 0 0, .slice none 0 0],0,0,3,[(0,3),(1,31),(2,32),(3,31)],80,true,true,false,[(0,1),(1,1),(2,1),(3,1)],true,false⟩:=by kernel_rfl
@[go_sem] theorem ZF6 :Tryz.prog.cellsOf 34=4:=by kernel_rfl
@[go_sem] theorem ZGV :tyi Tryz.prog 35=⟨1,false,[.int .i64 0],0,0,5,[],8,true,true,false,[],false,false⟩:=by kernel_rfl
@[go_sem] theorem ZF7 :Tryz.prog.cellsOf 35=1:=by kernel_rfl
@[go_sem] theorem ZDR :tyi Tryz.prog 38=⟨1,false,[.slice none 0 0],3,0,1,[],24,true,true,false,[],false,false⟩:=by kernel_rfl
@[go_sem] theorem ZF8 :Tryz.prog.cellsOf 38=1:=by kernel_rfl
@[go_sem] theorem ZGW :tyi Tryz.prog 48=⟨1,false,[.slice none 0 0],63,0,1,[],24,true,true,false,[],false,false⟩:=by kernel_rfl
@[go_sem] theorem ZF9 :Tryz.prog.cellsOf 48=1:=by kernel_rfl
@[go_sem] theorem ZGX :tyi Tryz.prog 54=⟨2,true,[.int .i64 0, .slice none 0 0],0,0,3,[(0,3),(1,32)],32,true,true,false,[(0,1),(1,1)],true,false⟩:=by kernel_rfl
@[go_sem] theorem ZGa :Tryz.prog.cellsOf 54=2:=by kernel_rfl
@[go_sem] theorem ZDS :tyi Tryz.prog 61=⟨7,true,[.int .i64 0, .int .i64 0, .int .i64 0, .int .i64 0, .string ⟨#[]⟩, .int .i64 0, .int .i64 0],0,0,3,[(0,3),(1,3),(2,3),(3,3),(4,9),(5,3),(6,3)],64,true,true,false,[(0,1),(1,1),(2,1),(3,1),(4,1),(5,1),(6,1)],true,false⟩:=by kernel_rfl
@[go_sem] theorem ZGb :Tryz.prog.cellsOf 61=7:=by kernel_rfl
@[go_sem] theorem ZGY :tyi Tryz.prog 63=⟨4,true,[.int .i64 0, .int .i64 0, .int .i64 0, .int .i64 0],0,0,3,[(0,3),(1,3),(2,3),(3,3)],32,true,true,true,[(0,1),(1,1),(2,1),(3,1)],true,false⟩:=by kernel_rfl
@[go_sem] theorem ZGc :Tryz.prog.cellsOf 63=4:=by kernel_rfl
@[go_sem] theorem ZGZ :tyi Tryz.prog 64=⟨1,false,[.slice none 0 0],92,0,1,[],24,true,true,false,[],false,false⟩:=by kernel_rfl
@[go_sem] theorem ZGd :Tryz.prog.cellsOf 64=1:=by kernel_rfl
@[go_sem] theorem ZDT :tyi Tryz.prog 66=⟨6,true,[.string ⟨#[]⟩, .string ⟨#[]⟩, .int .i64 0, .int .i64 0, .int .i64 0, .slice none 0 0],0,0,3,[(0,9),(1,9),(2,3),(3,3),(4,3),(5,64)],80,true,true,false,[(0,1),(1,1),(2,1),(3,1),(4,1),(5,1)],true,false⟩:=by kernel_rfl
@[go_sem] theorem ZGe :Tryz.prog.cellsOf 66=6:=by kernel_rfl
@[go_sem] theorem ZG0 :tyi Tryz.prog 74=⟨1,false,[.slice none 0 0],142,0,1,[],24,true,true,false,[],false,false⟩:=by kernel_rfl
@[go_sem] theorem ZGf :Tryz.prog.cellsOf 74=1:=by kernel_rfl
@[go_sem] theorem ZG1 :tyi Tryz.prog 76=⟨2,true,[.int .i64 0, .slice none 0 0],0,0,3,[(0,3),(1,74)],32,true,true,false,[(0,1),(1,1)],true,false⟩:=by kernel_rfl
@[go_sem] theorem ZGg :Tryz.prog.cellsOf 76=2:=by kernel_rfl
@[go_sem] theorem ZG2 :tyi Tryz.prog 90=⟨2,true,[.int .i64 0, .int .i64 0],0,0,3,[(0,3),(1,3)],16,true,true,true,[(0,1),(1,1)],true,false⟩:=by kernel_rfl
@[go_sem] theorem ZGh :Tryz.prog.cellsOf 90=2:=by kernel_rfl
@[go_sem] theorem ZDU :tyi Tryz.prog 92=⟨2,true,[.string ⟨#[]⟩, .int .i64 0],0,0,3,[(0,9),(1,3)],24,true,true,false,[(0,1),(1,1)],true,false⟩:=by kernel_rfl
@[go_sem] theorem ZGi :Tryz.prog.cellsOf 92=2:=by kernel_rfl
@[go_sem] theorem ZDV :tyi Tryz.prog 94=⟨2,true,[.string ⟨#[]⟩, .int .i64 0],0,0,3,[(0,9),(1,3)],24,true,true,false,[(0,1),(1,1)],true,false⟩:=by kernel_rfl
@[go_sem] theorem ZGj :Tryz.prog.cellsOf 94=2:=by kernel_rfl
@[go_sem] theorem ZG3 :tyi Tryz.prog 99=⟨3,true,[.int .i64 0, .slice none 0 0, .slice none 0 0],0,0,3,[(0,54),(2,38)],56,true,true,false,[(0,2),(2,1)],true,false⟩:=by kernel_rfl
@[go_sem] theorem ZGk :Tryz.prog.cellsOf 99=3:=by kernel_rfl
@[go_sem] theorem ZGl :tyi Tryz.prog 113=⟨1,false,[.map none],0,0,7,[],8,true,true,false,[],false,false⟩:=by kernel_rfl
@[go_sem] theorem ZFw :Tryz.prog.cellsOf 113=1:=by kernel_rfl
@[go_sem] theorem ZGm :tyi Tryz.prog 117=⟨1,false,[.slice none 0 0],120,0,1,[],24,true,true,false,[],false,false⟩:=by kernel_rfl
@[go_sem] theorem ZFx :Tryz.prog.cellsOf 117=1:=by kernel_rfl
@[go_sem] theorem ZGn :tyi Tryz.prog 120=⟨3,true,[.int .i64 0, .int .i64 0, .int .i64 0],0,0,3,[(0,3),(1,3),(2,3)],24,true,true,true,[(0,1),(1,1),(2,1)],true,false⟩:=by kernel_rfl
@[go_sem] theorem ZFy :Tryz.prog.cellsOf 120=3:=by kernel_rfl
@[go_sem] theorem ZGo :tyi Tryz.prog 123=⟨1,false,[.slice none 0 0],126,0,1,[],24,true,true,false,[],false,false⟩:=by kernel_rfl
@[go_sem] theorem ZFz :Tryz.prog.cellsOf 123=1:=by kernel_rfl
@[go_sem] theorem ZGp :tyi Tryz.prog 126=⟨2,true,[.int .i64 0, .int .i64 0],0,0,3,[(0,3),(1,3)],16,true,true,true,[(0,1),(1,1)],true,false⟩:=by kernel_rfl
@[go_sem] theorem ZFA :Tryz.prog.cellsOf 126=2:=by kernel_rfl
@[go_sem] theorem ZGq :tyi Tryz.prog 132=⟨2,true,[.int .i64 0, .int .i64 0],0,0,3,[(0,3),(1,3)],16,true,true,true,[(0,1),(1,1)],true,false⟩:=by kernel_rfl
@[go_sem] theorem ZFB :Tryz.prog.cellsOf 132=2:=by kernel_rfl
@[go_sem] theorem ZGr :tyi Tryz.prog 142=⟨4,true,[.int .i64 0, .int .i64 0, .int .i64 0, .int .i64 0],0,0,3,[(0,3),(1,3),(2,3),(3,3)],32,true,true,true,[(0,1),(1,1),(2,1),(3,1)],true,false⟩:=by kernel_rfl
@[go_sem] theorem ZFC :Tryz.prog.cellsOf 142=4:=by kernel_rfl
@[go_sem] theorem ZGs :tyi Tryz.prog 168=⟨1,false,[.int .u64 0],0,0,5,[],8,true,true,false,[],false,false⟩:=by kernel_rfl
@[go_sem] theorem ZFD :Tryz.prog.cellsOf 168=1:=by kernel_rfl
@[go_sem] theorem ZGt :tyi Tryz.prog 180=⟨1,false,[.slice none 0 0],184,0,1,[],24,true,true,false,[],false,false⟩:=by kernel_rfl
@[go_sem] theorem ZFE :Tryz.prog.cellsOf 180=1:=by kernel_rfl
@[go_sem] theorem ZGu :tyi Tryz.prog 184=⟨5,true,[.int .i64 0, .bool false, .int .i64 0, .int .i64 0, .int .i64 0],0,0,3,[(0,3),(1,4),(2,3),(3,3),(4,3)],40,true,true,false,[(0,1),(1,1),(2,1),(3,1),(4,1)],true,false⟩:=by kernel_rfl
@[go_sem] theorem ZFF :Tryz.prog.cellsOf 184=5:=by kernel_rfl
@[go_sem] theorem ZGv :tyi Tryz.prog 198=⟨3,true,[.int .i64 0, .slice none 0 0, .slice none 0 0],0,0,3,[(0,76),(2,38)],56,true,true,false,[(0,2),(2,1)],true,false⟩:=by kernel_rfl
@[go_sem] theorem ZFG :Tryz.prog.cellsOf 198=3:=by kernel_rfl
@[go_sem] theorem ZGw :tyi Tryz.prog 199=⟨1,false,[.slice none 0 0],206,0,1,[],24,true,true,false,[],false,false⟩:=by kernel_rfl
@[go_sem] theorem ZFH :Tryz.prog.cellsOf 199=1:=by kernel_rfl
@[go_sem] theorem ZGx :tyi Tryz.prog 204=⟨4,true,[.int .i64 0, .int .i64 0, .int .i64 0, .bool false],0,0,3,[(0,3),(1,3),(2,3),(3,4)],32,true,true,false,[(0,1),(1,1),(2,1),(3,1)],true,false⟩:=by kernel_rfl
@[go_sem] theorem ZFI :Tryz.prog.cellsOf 204=4:=by kernel_rfl
@[go_sem] theorem ZGy :tyi Tryz.prog 206=⟨7,true,[.int .i64 0, .int .i64 0, .int .i64 0, .int .i64 0, .int .i64 0, .bool false, .bool false],0,0,3,[(0,3),(1,3),(2,204),(6,4)],56,true,true,false,[(0,1),(1,1),(2,4),(6,1)],true,false⟩:=by kernel_rfl
@[go_sem] theorem ZFJ :Tryz.prog.cellsOf 206=7:=by kernel_rfl
@[go_sem] theorem ZGA :tyi Tryz.prog 220=⟨4,true,[.slice none 0 0, .slice none 0 0, .slice none 0 0, .int .i64 0],0,0,3,[(0,31),(1,38),(2,38),(3,3)],80,true,true,false,[(0,1),(1,1),(2,1),(3,1)],true,false⟩:=by kernel_rfl
@[go_sem] theorem ZFL :Tryz.prog.cellsOf 220=4:=by kernel_rfl
@[go_sem] theorem ZGB :tyi Tryz.prog 225=⟨1,false,[.slice none 0 0],4,0,1,[],24,true,true,false,[],false,false⟩:=by kernel_rfl
@[go_sem] theorem ZFM :Tryz.prog.cellsOf 225=1:=by kernel_rfl
@[go_sem] theorem ZGD :tyi Tryz.prog 230=⟨1,false,[.slice none 0 0],5,0,1,[],24,true,true,false,[],false,false⟩:=by kernel_rfl
@[go_sem] theorem ZFO :Tryz.prog.cellsOf 230=1:=by kernel_rfl
@[go_sem] theorem ZGE :tyi Tryz.prog 236=⟨8,true,[.int .i64 0, .int .i64 0, .int .i64 0, .int .i64 0, .int .i64 0, .int .i64 0, .int .i64 0, .int .i64 0],3,8,2,[],64,true,true,false,[],false,false⟩:=by kernel_rfl
@[go_sem] theorem ZFP :Tryz.prog.cellsOf 236=8:=by kernel_rfl
@[go_sem] theorem ZGF :tyi Tryz.prog 237=⟨64,true,[.int .i64 0, .int .i64 0, .int .i64 0, .int .i64 0, .int .i64 0, .int .i64 0, .int .i64 0, .int .i64 0, .int .i64 0, .int .i64 0, .int .i64 0, .int .i64 0, .int .i64 0, .int .i64 0, .int .i64 0, .int .i64 0, .int .i64 0, .int .i64 0, .int .i64 0, .int .i64 0, .int .i64 0, .int .i64 0, .int .i64 0, .int .i64 0, .int .i64 0, .int .i64 0, .int .i64 0, .int .i64 0, .int .i64 0, .int .i64 0, .int .i64 0, .int .i64 0, .int .i64 0, .int .i64 0, .int .i64 0, .int .i64 0, .int .i64 0, .int .i64 0, .int .i64 0, .int .i64 0, .int .i64 0, .int .i64 0, .int .i64 0, .int .i64 0, .int .i64 0, .int .i64 0, .int .i64 0, .int .i64 0, .int .i64 0, .int .i64 0, .int .i64 0, .int .i64 0, .int .i64 0, .int .i64 0, .int .i64 0, .int .i64 0, .int .i64 0, .int .i64 0, .int .i64 0, .int .i64 0, .int .i64 0, .int .i64 0, .int .i64 0, .int .i64 0],236,8,2,[],512,true,true,false,[],false,false⟩:=by kernel_rfl
@[go_sem] theorem ZFQ :Tryz.prog.cellsOf 237=64:=by kernel_rfl
@[go_sem] theorem ZGG :tyi Tryz.prog 239=⟨66,true,[.int .i64 0, .int .i64 0, .int .i64 0, .int .i64 0, .int .i64 0, .int .i64 0, .int .i64 0, .int .i64 0, .int .i64 0, .int .i64 0, .int .i64 0, .int .i64 0, .int .i64 0, .int .i64 0, .int .i64 0, .int .i64 0, .int .i64 0, .int .i64 0, .int .i64 0, .int .i64 0, .int .i64 0, .int .i64 0, .int .i64 0, .int .i64 0, .int .i64 0, .int .i64 0, .int .i64 0, .int .i64 0, .int .i64 0, .int .i64 0, .int .i64 0, .int .i64 0, .int .i64 0, .int .i64 0, .int .i64 0, .int .i64 0, .int .i64 0, .int .i64 0, .int .i64 0, .int .i64 0, .int .i64 0, .int .i64 0, .int .i64 0, .int .i64 0, .int .i64 0, .int .i64 0, .int .i64 0, .int .i64 0, .int .i64 0, .int .i64 0, .int .i64 0, .int .i64 0, .int .i64 0, .int .i64 0, .int .i64 0, .int .i64 0, .int .i64 0, .int .i64 0, .int .i64 0, .int .i64 0, .int .i64 0, .int .i64 0, .int .i64 0, .int .i64 0, .int .i64 0, .slice none 0 0],0,0,3,[(0,3),(1,237),(65,38)],544,true,true,false,[(0,1),(1,64),(65,1)],true,false⟩:=by kernel_rfl
@[go_sem] theorem ZFR :Tryz.prog.cellsOf 239=66:=by kernel_rfl
@[go_sem] theorem ZGI :tyi Tryz.prog 243=⟨1,false,[.slice none 0 0],245,0,1,[],24,true,true,false,[],false,false⟩:=by kernel_rfl
@[go_sem] theorem ZFT :Tryz.prog.cellsOf 243=1:=by kernel_rfl
@[go_sem] theorem ZGJ :tyi Tryz.prog 245=⟨1,false,[.slice none 0 0],204,0,1,[],24,true,true,false,[],false,false⟩:=by kernel_rfl
@[go_sem] theorem ZFU :Tryz.prog.cellsOf 245=1:=by kernel_rfl
@[go_sem] theorem ZGK :tyi Tryz.prog 258=⟨1,false,[.slice none 0 0],261,0,1,[],24,true,true,false,[],false,false⟩:=by kernel_rfl
@[go_sem] theorem ZFV :Tryz.prog.cellsOf 258=1:=by kernel_rfl
@[go_sem] theorem ZGL :tyi Tryz.prog 261=⟨2,true,[.int .i64 0, .slice none 0 0],0,0,3,[(0,3),(1,38)],32,true,true,false,[(0,1),(1,1)],true,false⟩:=by kernel_rfl
@[go_sem] theorem ZFX :Tryz.prog.cellsOf 261=2:=by kernel_rfl
@[go_sem] theorem ZGM :tyi Tryz.prog 274=⟨1,false,[.int .u32 0],0,0,5,[],4,true,true,false,[],false,false⟩:=by kernel_rfl
@[go_sem] theorem ZFY :Tryz.prog.cellsOf 274=1:=by kernel_rfl
@[go_sem] theorem ZGN :tyi Tryz.prog 276=⟨1,false,[.int .u64 0],0,0,5,[],8,true,true,false,[],false,false⟩:=by kernel_rfl
@[go_sem] theorem ZFZ :Tryz.prog.cellsOf 276=1:=by kernel_rfl
@[go_sem] theorem ZGP :tyi Tryz.prog 281=⟨1,false,[.int .i64 0],0,0,5,[],8,true,true,false,[],false,false⟩:=by kernel_rfl
@[go_sem] theorem ZF1 :Tryz.prog.cellsOf 281=1:=by kernel_rfl
@[go_sem] theorem ZGQ :tyi Tryz.prog 289=⟨64,true,[.int .u8 0, .int .u8 0, .int .u8 0, .int .u8 0, .int .u8 0, .int .u8 0, .int .u8 0, .int .u8 0, .int .u8 0, .int .u8 0, .int .u8 0, .int .u8 0, .int .u8 0, .int .u8 0, .int .u8 0, .int .u8 0, .int .u8 0, .int .u8 0, .int .u8 0, .int .u8 0, .int .u8 0, .int .u8 0, .int .u8 0, .int .u8 0, .int .u8 0, .int .u8 0, .int .u8 0, .int .u8 0, .int .u8 0, .int .u8 0, .int .u8 0, .int .u8 0, .int .u8 0, .int .u8 0, .int .u8 0, .int .u8 0, .int .u8 0, .int .u8 0, .int .u8 0, .int .u8 0, .int .u8 0, .int .u8 0, .int .u8 0, .int .u8 0, .int .u8 0, .int .u8 0, .int .u8 0, .int .u8 0, .int .u8 0, .int .u8 0, .int .u8 0, .int .u8 0, .int .u8 0, .int .u8 0, .int .u8 0, .int .u8 0, .int .u8 0, .int .u8 0, .int .u8 0, .int .u8 0, .int .u8 0, .int .u8 0, .int .u8 0, .int .u8 0],5,64,2,[],64,true,true,false,[],false,false⟩:=by kernel_rfl
@[go_sem] theorem ZF2 :Tryz.prog.cellsOf 289=64:=by kernel_rfl
@[go_sem] theorem ZGR :tyi Tryz.prog 292=⟨1,false,[.int .u64 0],0,0,5,[],8,true,true,false,[],false,false⟩:=by kernel_rfl
@[go_sem] theorem ZF3 :Tryz.prog.cellsOf 292=1:=by kernel_rfl
end Go.Proofs.YtjjbhjnpeenbkaaGreatDoor
