/- Facts on the types of this seat's program, as the walk asks for them. -/
import Derived.Test.YtjjbhjnpeenbkaaGreatDoorPSEnd
import Derived.Test.YtjjbhjnpeenbkaaGreatDoorProg
import Derived.KernelRfl
set_option linter.unusedSimpArgs false
set_option linter.unusedVariables false
set_option maxHeartbeats 16000000
namespace Go.Proofs.YtjjbhjnpeenbkaaGreatDoor
open Go Go.PS Go.Proofs
theorem ZcT :Tryz.prog.follows .mixedOrders=true:=by kernel_rfl
theorem wR {B X:Nat->Prop}{w0:W0}{n:Nat}{Q:Exit->St->Prop}{S:St}{id:Nat}{ops:Array Oper}{draw:Bool}(h:Zad Tryz.prog (λ _=>false) ops.toList ops.toList S [] λ S' fs=>Zih n ops draw fs.reverse=true/\Q .normal S'):PW Tryz.prog B X w0 n (.region id ops draw) Q S:=ZgF _ ZcT h
@[go_sem] theorem un3 :Tryz.prog.underlying 3=some (.int .i64):=by kernel_rfl
@[go_sem] theorem un5 :Tryz.prog.underlying 5=some (.int .u8):=by kernel_rfl
@[go_sem] theorem un9 :Tryz.prog.underlying 9=some .string:=by kernel_rfl
@[go_sem] theorem ZIt :Tryz.prog.underlying 168=some (.int .u64):=by kernel_rfl
@[go_sem] theorem ZIu :Tryz.prog.underlying 230=some (.slice 5):=by kernel_rfl
@[go_sem] theorem ZIv :Tryz.prog.underlying 274=some (.int .u32):=by kernel_rfl
@[go_sem] theorem ZIw :Tryz.prog.underlying 276=some (.int .u64):=by kernel_rfl
@[go_sem] theorem ZIx :Tryz.prog.underlying 292=some (.int .u64):=by kernel_rfl
@[go_sem] theorem ty3 :tyi Tryz.prog 3=⟨1,false,[.int .i64 0],0,0,5,[],8,true,true,false,[],false,false⟩:=by kernel_rfl
@[go_sem] theorem sz3 :Tryz.prog.cellsOf 3=1:=by kernel_rfl
@[go_sem] theorem ty4 :tyi Tryz.prog 4=⟨1,false,[.bool false],0,0,6,[],1,true,true,false,[],false,false⟩:=by kernel_rfl
@[go_sem] theorem sz4 :Tryz.prog.cellsOf 4=1:=by kernel_rfl
@[go_sem] theorem ty5 :tyi Tryz.prog 5=⟨1,false,[.int .u8 0],0,0,5,[],1,true,true,false,[],false,true⟩:=by kernel_rfl
@[go_sem] theorem sz5 :Tryz.prog.cellsOf 5=1:=by kernel_rfl
@[go_sem] theorem ty9 :tyi Tryz.prog 9=⟨1,false,[.string ⟨#[]⟩],0,0,8,[],16,true,true,false,[],false,false⟩:=by kernel_rfl
@[go_sem] theorem sz9 :Tryz.prog.cellsOf 9=1:=by kernel_rfl
@[go_sem] theorem ZHX :tyi Tryz.prog 22=⟨1,false,[.slice none 0 0],66,0,1,[],24,true,true,false,[],false,false⟩:=by kernel_rfl
@[go_sem] theorem ZG7 :Tryz.prog.cellsOf 22=1:=by kernel_rfl
@[go_sem] theorem ZH0 :tyi Tryz.prog 23=⟨1,false,[.slice none 0 0],61,0,1,[],24,true,true,false,[],false,false⟩:=by kernel_rfl
@[go_sem] theorem ZHa :Tryz.prog.cellsOf 23=1:=by kernel_rfl
@[go_sem] theorem ZH5 :tyi Tryz.prog 24=⟨1,false,[.slice none 0 0],94,0,1,[],24,true,true,false,[],false,false⟩:=by kernel_rfl
@[go_sem] theorem ZHf :Tryz.prog.cellsOf 24=1:=by kernel_rfl
@[go_sem] theorem ZE7 :tyi Tryz.prog 26=⟨5,true,[.string ⟨#[]⟩, .bool false, .slice none 0 0, .slice none 0 0, .slice none 0 0],0,0,3,[(0,9),(1,4),(2,22),(3,23),(4,24)],96,true,true,false,[(0,1),(1,1),(2,1),(3,1),(4,1)],true,false⟩:=by kernel_rfl
@[go_sem] theorem ZHj :Tryz.prog.cellsOf 26=5:=by kernel_rfl
@[go_sem] theorem ZE8 :tyi Tryz.prog 28=⟨5,true,[.int .i64 0, .int .i64 0, .int .i64 0, .int .i64 0, .int .i64 0],0,0,3,[(0,3),(1,3),(2,3),(3,3),(4,3)],40,true,true,true,[(0,1),(1,1),(2,1),(3,1),(4,1)],true,false⟩:=by kernel_rfl
@[go_sem] theorem ZHn :Tryz.prog.cellsOf 28=5:=by kernel_rfl
@[go_sem] theorem ZIf :tyi Tryz.prog 31=⟨1,false,[.slice none 0 0],38,0,1,[],24,true,true,false,[],false,false⟩:=by kernel_rfl
@[go_sem] theorem ZHr :Tryz.prog.cellsOf 31=1:=by kernel_rfl
@[go_sem] theorem ZIg :tyi Tryz.prog 32=⟨1,false,[.slice none 0 0],90,0,1,[],24,true,true,false,[],false,false⟩:=by kernel_rfl
@[go_sem] theorem ZHs :Tryz.prog.cellsOf 32=1:=by kernel_rfl
@[go_sem] theorem ZIh :tyi Tryz.prog 34=⟨4,true,[.int .i64 0, .slice none 0 0, .slice none 0 0, .slice none 0 0],0,0,3,[(0,3),(1,31),(2,32),(3,31)],80,true,true,false,[(0,1),(1,1),(2,1),(3,1)],true,false⟩:=by kernel_rfl
@[go_sem] theorem ZHt :Tryz.prog.cellsOf 34=4:=by kernel_rfl
@[go_sem] theorem ZIi :tyi Tryz.prog 35=⟨1,false,[.int .i64 0],0,0,5,[],8,true,true,false,[],false,false⟩:=by kernel_rfl
@[go_sem] theorem ZHu :Tryz.prog.cellsOf 35=1:=by kernel_rfl
@[go_sem] theorem ZIj :tyi Tryz.prog 38=⟨1,false,[.slice none 0 0],3,0,1,[],24,true,true,false,[],false,false⟩:=by kernel_rfl
@[go_sem] theorem ZHv :Tryz.prog.cellsOf 38=1:=by kernel_rfl
@[go_sem] theorem ZIk :tyi Tryz.prog 48=⟨1,false,[.slice none 0 0],63,0,1,[],24,true,true,false,[],false,false⟩:=by kernel_rfl
@[go_sem] theorem ZHw :Tryz.prog.cellsOf 48=1:=by kernel_rfl
@[go_sem] theorem ZIl :tyi Tryz.prog 54=⟨2,true,[.int .i64 0, .slice none 0 0],0,0,3,[(0,3),(1,32)],32,true,true,false,[(0,1),(1,1)],true,false⟩:=by kernel_rfl
@[go_sem] theorem ZHx :Tryz.prog.cellsOf 54=2:=by kernel_rfl
@[go_sem] theorem ZIm :tyi Tryz.prog 57=⟨1,false,[.slice none 0 0],132,0,1,[],24,true,true,false,[],false,false⟩:=by kernel_rfl
@[go_sem] theorem ZHy :Tryz.prog.cellsOf 57=1:=by kernel_rfl
@[go_sem] theorem ZE9 :tyi Tryz.prog 61=⟨7,true,[.int .i64 0, .int .i64 0, .int .i64 0, .int .i64 0, .string ⟨#[]⟩, .int .i64 0, .int .i64 0],0,0,3,[(0,3),(1,3),(2,3),(3,3),(4,9),(5,3),(6,3)],64,true,true,false,[(0,1),(1,1),(2,1),(3,1),(4,1),(5,1),(6,1)],true,false⟩:=by kernel_rfl
@[go_sem] theorem ZHz :Tryz.prog.cellsOf 61=7:=by kernel_rfl
@[go_sem] theorem ZIn :tyi Tryz.prog 63=⟨4,true,[.int .i64 0, .int .i64 0, .int .i64 0, .int .i64 0],0,0,3,[(0,3),(1,3),(2,3),(3,3)],32,true,true,true,[(0,1),(1,1),(2,1),(3,1)],true,false⟩:=by kernel_rfl
@[go_sem] theorem ZHA :Tryz.prog.cellsOf 63=4:=by kernel_rfl
@[go_sem] theorem ZIo :tyi Tryz.prog 64=⟨1,false,[.slice none 0 0],92,0,1,[],24,true,true,false,[],false,false⟩:=by kernel_rfl
@[go_sem] theorem ZHB :Tryz.prog.cellsOf 64=1:=by kernel_rfl
@[go_sem] theorem ZFa :tyi Tryz.prog 66=⟨6,true,[.string ⟨#[]⟩, .string ⟨#[]⟩, .int .i64 0, .int .i64 0, .int .i64 0, .slice none 0 0],0,0,3,[(0,9),(1,9),(2,3),(3,3),(4,3),(5,64)],80,true,true,false,[(0,1),(1,1),(2,1),(3,1),(4,1),(5,1)],true,false⟩:=by kernel_rfl
@[go_sem] theorem ZHC :Tryz.prog.cellsOf 66=6:=by kernel_rfl
@[go_sem] theorem ZIp :tyi Tryz.prog 74=⟨1,false,[.slice none 0 0],142,0,1,[],24,true,true,false,[],false,false⟩:=by kernel_rfl
@[go_sem] theorem ZHD :Tryz.prog.cellsOf 74=1:=by kernel_rfl
@[go_sem] theorem ZIq :tyi Tryz.prog 76=⟨2,true,[.int .i64 0, .slice none 0 0],0,0,3,[(0,3),(1,74)],32,true,true,false,[(0,1),(1,1)],true,false⟩:=by kernel_rfl
@[go_sem] theorem ZHE :Tryz.prog.cellsOf 76=2:=by kernel_rfl
@[go_sem] theorem ZIr :tyi Tryz.prog 90=⟨2,true,[.int .i64 0, .int .i64 0],0,0,3,[(0,3),(1,3)],16,true,true,true,[(0,1),(1,1)],true,false⟩:=by kernel_rfl
@[go_sem] theorem ZHF :Tryz.prog.cellsOf 90=2:=by kernel_rfl
@[go_sem] theorem ZFb :tyi Tryz.prog 92=⟨2,true,[.string ⟨#[]⟩, .int .i64 0],0,0,3,[(0,9),(1,3)],24,true,true,false,[(0,1),(1,1)],true,false⟩:=by kernel_rfl
@[go_sem] theorem ZHG :Tryz.prog.cellsOf 92=2:=by kernel_rfl
@[go_sem] theorem ZFc :tyi Tryz.prog 94=⟨2,true,[.string ⟨#[]⟩, .int .i64 0],0,0,3,[(0,9),(1,3)],24,true,true,false,[(0,1),(1,1)],true,false⟩:=by kernel_rfl
@[go_sem] theorem ZHH :Tryz.prog.cellsOf 94=2:=by kernel_rfl
@[go_sem] theorem ZIs :tyi Tryz.prog 99=⟨3,true,[.int .i64 0, .slice none 0 0, .slice none 0 0],0,0,3,[(0,54),(2,38)],56,true,true,false,[(0,2),(2,1)],true,false⟩:=by kernel_rfl
@[go_sem] theorem ZHI :Tryz.prog.cellsOf 99=3:=by kernel_rfl
@[go_sem] theorem ZHJ :tyi Tryz.prog 113=⟨1,false,[.map none],0,0,7,[],8,true,true,false,[],false,false⟩:=by kernel_rfl
@[go_sem] theorem ZGT :Tryz.prog.cellsOf 113=1:=by kernel_rfl
@[go_sem] theorem ZHK :tyi Tryz.prog 117=⟨1,false,[.slice none 0 0],120,0,1,[],24,true,true,false,[],false,false⟩:=by kernel_rfl
@[go_sem] theorem ZGU :Tryz.prog.cellsOf 117=1:=by kernel_rfl
@[go_sem] theorem ZHL :tyi Tryz.prog 120=⟨3,true,[.int .i64 0, .int .i64 0, .int .i64 0],0,0,3,[(0,3),(1,3),(2,3)],24,true,true,true,[(0,1),(1,1),(2,1)],true,false⟩:=by kernel_rfl
@[go_sem] theorem ZGV :Tryz.prog.cellsOf 120=3:=by kernel_rfl
@[go_sem] theorem ZHM :tyi Tryz.prog 123=⟨1,false,[.slice none 0 0],126,0,1,[],24,true,true,false,[],false,false⟩:=by kernel_rfl
@[go_sem] theorem ZGW :Tryz.prog.cellsOf 123=1:=by kernel_rfl
@[go_sem] theorem ZHN :tyi Tryz.prog 126=⟨2,true,[.int .i64 0, .int .i64 0],0,0,3,[(0,3),(1,3)],16,true,true,true,[(0,1),(1,1)],true,false⟩:=by kernel_rfl
@[go_sem] theorem ZGX :Tryz.prog.cellsOf 126=2:=by kernel_rfl
@[go_sem] theorem ZHO :tyi Tryz.prog 132=⟨2,true,[.int .i64 0, .int .i64 0],0,0,3,[(0,3),(1,3)],16,true,true,true,[(0,1),(1,1)],true,false⟩:=by kernel_rfl
@[go_sem] theorem ZGY :Tryz.prog.cellsOf 132=2:=by kernel_rfl
@[go_sem] theorem ZHP :tyi Tryz.prog 136=⟨4,true,[.int .i64 0, .int .i64 0, .int .i64 0, .int .i64 0],0,0,3,[(0,132),(2,132)],32,true,true,false,[(0,2),(2,2)],true,false⟩:=by kernel_rfl
@[go_sem] theorem ZGZ :Tryz.prog.cellsOf 136=4:=by kernel_rfl
@[go_sem] theorem ZHQ :tyi Tryz.prog 142=⟨4,true,[.int .i64 0, .int .i64 0, .int .i64 0, .int .i64 0],0,0,3,[(0,3),(1,3),(2,3),(3,3)],32,true,true,true,[(0,1),(1,1),(2,1),(3,1)],true,false⟩:=by kernel_rfl
@[go_sem] theorem ZG0 :Tryz.prog.cellsOf 142=4:=by kernel_rfl
@[go_sem] theorem ZHR :tyi Tryz.prog 168=⟨1,false,[.int .u64 0],0,0,5,[],8,true,true,false,[],false,false⟩:=by kernel_rfl
@[go_sem] theorem ZG1 :Tryz.prog.cellsOf 168=1:=by kernel_rfl
@[go_sem] theorem ZHS :tyi Tryz.prog 172=⟨2,true,[.int .i64 0, .int .i64 0],0,0,3,[(0,3),(1,3)],16,true,true,true,[(0,1),(1,1)],true,false⟩:=by kernel_rfl
@[go_sem] theorem ZG2 :Tryz.prog.cellsOf 172=2:=by kernel_rfl
@[go_sem] theorem ZHT :tyi Tryz.prog 198=⟨3,true,[.int .i64 0, .slice none 0 0, .slice none 0 0],0,0,3,[(0,76),(2,38)],56,true,true,false,[(0,2),(2,1)],true,false⟩:=by kernel_rfl
@[go_sem] theorem ZG3 :Tryz.prog.cellsOf 198=3:=by kernel_rfl
@[go_sem] theorem ZHU :tyi Tryz.prog 199=⟨1,false,[.slice none 0 0],206,0,1,[],24,true,true,false,[],false,false⟩:=by kernel_rfl
@[go_sem] theorem ZG4 :Tryz.prog.cellsOf 199=1:=by kernel_rfl
@[go_sem] theorem ZHV :tyi Tryz.prog 204=⟨4,true,[.int .i64 0, .int .i64 0, .int .i64 0, .bool false],0,0,3,[(0,3),(1,3),(2,3),(3,4)],32,true,true,false,[(0,1),(1,1),(2,1),(3,1)],true,false⟩:=by kernel_rfl
@[go_sem] theorem ZG5 :Tryz.prog.cellsOf 204=4:=by kernel_rfl
@[go_sem] theorem ZHW :tyi Tryz.prog 206=⟨7,true,[.int .i64 0, .int .i64 0, .int .i64 0, .int .i64 0, .int .i64 0, .bool false, .bool false],0,0,3,[(0,3),(1,3),(2,204),(6,4)],56,true,true,false,[(0,1),(1,1),(2,4),(6,1)],true,false⟩:=by kernel_rfl
@[go_sem] theorem ZG6 :Tryz.prog.cellsOf 206=7:=by kernel_rfl
@[go_sem] theorem ZHY :tyi Tryz.prog 220=⟨4,true,[.slice none 0 0, .slice none 0 0, .slice none 0 0, .int .i64 0],0,0,3,[(0,31),(1,38),(2,38),(3,3)],80,true,true,false,[(0,1),(1,1),(2,1),(3,1)],true,false⟩:=by kernel_rfl
@[go_sem] theorem ZG8 :Tryz.prog.cellsOf 220=4:=by kernel_rfl
@[go_sem] theorem ZHZ :tyi Tryz.prog 225=⟨1,false,[.slice none 0 0],4,0,1,[],24,true,true,false,[],false,false⟩:=by kernel_rfl
@[go_sem] theorem ZG9 :Tryz.prog.cellsOf 225=1:=by kernel_rfl
@[go_sem] theorem ZH1 :tyi Tryz.prog 230=⟨1,false,[.slice none 0 0],5,0,1,[],24,true,true,false,[],false,false⟩:=by kernel_rfl
@[go_sem] theorem ZHb :Tryz.prog.cellsOf 230=1:=by kernel_rfl
@[go_sem] theorem ZH2 :tyi Tryz.prog 236=⟨8,true,[.int .i64 0, .int .i64 0, .int .i64 0, .int .i64 0, .int .i64 0, .int .i64 0, .int .i64 0, .int .i64 0],3,8,2,[],64,true,true,false,[],false,false⟩:=by kernel_rfl
@[go_sem] theorem ZHc :Tryz.prog.cellsOf 236=8:=by kernel_rfl
@[go_sem] theorem ZH3 :tyi Tryz.prog 237=⟨64,true,[.int .i64 0, .int .i64 0, .int .i64 0, .int .i64 0, .int .i64 0, .int .i64 0, .int .i64 0, .int .i64 0, .int .i64 0, .int .i64 0, .int .i64 0, .int .i64 0, .int .i64 0, .int .i64 0, .int .i64 0, .int .i64 0, .int .i64 0, .int .i64 0, .int .i64 0, .int .i64 0, .int .i64 0, .int .i64 0, .int .i64 0, .int .i64 0, .int .i64 0, .int .i64 0, .int .i64 0, .int .i64 0, .int .i64 0, .int .i64 0, .int .i64 0, .int .i64 0, .int .i64 0, .int .i64 0, .int .i64 0, .int .i64 0, .int .i64 0, .int .i64 0, .int .i64 0, .int .i64 0, .int .i64 0, .int .i64 0, .int .i64 0, .int .i64 0, .int .i64 0, .int .i64 0, .int .i64 0, .int .i64 0, .int .i64 0, .int .i64 0, .int .i64 0, .int .i64 0, .int .i64 0, .int .i64 0, .int .i64 0, .int .i64 0, .int .i64 0, .int .i64 0, .int .i64 0, .int .i64 0, .int .i64 0, .int .i64 0, .int .i64 0, .int .i64 0],236,8,2,[],512,true,true,false,[],false,false⟩:=by kernel_rfl
@[go_sem] theorem ZHd :Tryz.prog.cellsOf 237=64:=by kernel_rfl
@[go_sem] theorem ZH4 :tyi Tryz.prog 239=⟨66,true,[.int .i64 0, .int .i64 0, .int .i64 0, .int .i64 0, .int .i64 0, .int .i64 0, .int .i64 0, .int .i64 0, .int .i64 0, .int .i64 0, .int .i64 0, .int .i64 0, .int .i64 0, .int .i64 0, .int .i64 0, .int .i64 0, .int .i64 0, .int .i64 0, .int .i64 0, .int .i64 0, .int .i64 0, .int .i64 0, .int .i64 0, .int .i64 0, .int .i64 0, .int .i64 0, .int .i64 0, .int .i64 0, .int .i64 0, .int .i64 0, .int .i64 0, .int .i64 0, .int .i64 0, .int .i64 0, .int .i64 0, .int .i64 0, .int .i64 0, .int .i64 0, .int .i64 0, .int .i64 0, .int .i64 0, .int .i64 0, .int .i64 0, .int .i64 0, .int .i64 0, .int .i64 0, .int .i64 0, .int .i64 0, .int .i64 0, .int .i64 0, .int .i64 0, .int .i64 0, .int .i64 0, .int .i64 0, .int .i64 0, .int .i64 0, .int .i64 0, .int .i64 0, .int .i64 0, .int .i64 0, .int .i64 0, .int .i64 0, .int .i64 0, .int .i64 0, .int .i64 0, .slice none 0 0],0,0,3,[(0,3),(1,237),(65,38)],544,true,true,false,[(0,1),(1,64),(65,1)],true,false⟩:=by kernel_rfl
@[go_sem] theorem ZHe :Tryz.prog.cellsOf 239=66:=by kernel_rfl
@[go_sem] theorem ZH6 :tyi Tryz.prog 243=⟨1,false,[.slice none 0 0],245,0,1,[],24,true,true,false,[],false,false⟩:=by kernel_rfl
@[go_sem] theorem ZHg :Tryz.prog.cellsOf 243=1:=by kernel_rfl
@[go_sem] theorem ZH7 :tyi Tryz.prog 245=⟨1,false,[.slice none 0 0],204,0,1,[],24,true,true,false,[],false,false⟩:=by kernel_rfl
@[go_sem] theorem ZHh :Tryz.prog.cellsOf 245=1:=by kernel_rfl
@[go_sem] theorem ZH8 :tyi Tryz.prog 258=⟨1,false,[.slice none 0 0],261,0,1,[],24,true,true,false,[],false,false⟩:=by kernel_rfl
@[go_sem] theorem ZHi :Tryz.prog.cellsOf 258=1:=by kernel_rfl
@[go_sem] theorem ZH9 :tyi Tryz.prog 261=⟨2,true,[.int .i64 0, .slice none 0 0],0,0,3,[(0,3),(1,38)],32,true,true,false,[(0,1),(1,1)],true,false⟩:=by kernel_rfl
@[go_sem] theorem ZHk :Tryz.prog.cellsOf 261=2:=by kernel_rfl
@[go_sem] theorem ZIa :tyi Tryz.prog 274=⟨1,false,[.int .u32 0],0,0,5,[],4,true,true,false,[],false,false⟩:=by kernel_rfl
@[go_sem] theorem ZHl :Tryz.prog.cellsOf 274=1:=by kernel_rfl
@[go_sem] theorem ZIb :tyi Tryz.prog 276=⟨1,false,[.int .u64 0],0,0,5,[],8,true,true,false,[],false,false⟩:=by kernel_rfl
@[go_sem] theorem ZHm :Tryz.prog.cellsOf 276=1:=by kernel_rfl
@[go_sem] theorem ZIc :tyi Tryz.prog 281=⟨1,false,[.int .i64 0],0,0,5,[],8,true,true,false,[],false,false⟩:=by kernel_rfl
@[go_sem] theorem ZHo :Tryz.prog.cellsOf 281=1:=by kernel_rfl
@[go_sem] theorem ZId :tyi Tryz.prog 289=⟨64,true,[.int .u8 0, .int .u8 0, .int .u8 0, .int .u8 0, .int .u8 0, .int .u8 0, .int .u8 0, .int .u8 0, .int .u8 0, .int .u8 0, .int .u8 0, .int .u8 0, .int .u8 0, .int .u8 0, .int .u8 0, .int .u8 0, .int .u8 0, .int .u8 0, .int .u8 0, .int .u8 0, .int .u8 0, .int .u8 0, .int .u8 0, .int .u8 0, .int .u8 0, .int .u8 0, .int .u8 0, .int .u8 0, .int .u8 0, .int .u8 0, .int .u8 0, .int .u8 0, .int .u8 0, .int .u8 0, .int .u8 0, .int .u8 0, .int .u8 0, .int .u8 0, .int .u8 0, .int .u8 0, .int .u8 0, .int .u8 0, .int .u8 0, .int .u8 0, .int .u8 0, .int .u8 0, .int .u8 0, .int .u8 0, .int .u8 0, .int .u8 0, .int .u8 0, .int .u8 0, .int .u8 0, .int .u8 0, .int .u8 0, .int .u8 0, .int .u8 0, .int .u8 0, .int .u8 0, .int .u8 0, .int .u8 0, .int .u8 0, .int .u8 0, .int .u8 0],5,64,2,[],64,true,true,false,[],false,false⟩:=by kernel_rfl
@[go_sem] theorem ZHp :Tryz.prog.cellsOf 289=64:=by kernel_rfl
@[go_sem] theorem ZIe :tyi Tryz.prog 292=⟨1,false,[.int .u64 0],0,0,5,[],8,true,true,false,[],false,false⟩:=by kernel_rfl
@[go_sem] theorem ZHq :Tryz.prog.cellsOf 292=1:=by kernel_rfl
end Go.Proofs.YtjjbhjnpeenbkaaGreatDoor
