/- Facts on the types of this seat's program, as the walk asks for them. -/
import Derived.Test.YtjjbhjnpeenbkaaGreatDoorPSStep
import Derived.Test.YtjjbhjnpeenbkaaGreatDoorProg
import Derived.KernelRfl
set_option linter.unusedSimpArgs false
set_option linter.unusedVariables false
set_option maxHeartbeats 16000000
namespace Go.Proofs.YtjjbhjnpeenbkaaGreatDoor
open Go Go.PS Go.Proofs
theorem ck :Tryz.prog.follows .mixedOrders=true:=xD
theorem wR {B X:Nat->Prop}{w0:W0}{n:Nat}{Q:Exit->St->Prop}{S:St}{id:Nat}{ops:Array Oper}{draw:Bool}(h:ao Tryz.prog (λ _=>false) ops.toList ops.toList S [] λ S' fs=>oL n ops draw fs.reverse=true/\Q .normal S'):PW Tryz.prog B X w0 n (.region id ops draw) Q S:=dA _ ck h
@[go_sem] theorem un3 :Tryz.prog.underlying 3=some (.int .i64):=xD
@[go_sem] theorem un5 :Tryz.prog.underlying 5=some (.int .u8):=xD
@[go_sem] theorem un9 :Tryz.prog.underlying 9=some .string:=xD
@[go_sem] theorem WV :Tryz.prog.underlying 168=some (.int .u64):=xD
@[go_sem] theorem WW :Tryz.prog.underlying 230=some (.slice 5):=xD
@[go_sem] theorem WX :Tryz.prog.underlying 274=some (.int .u32):=xD
@[go_sem] theorem WY :Tryz.prog.underlying 276=some (.int .u64):=xD
@[go_sem] theorem WZ :Tryz.prog.underlying 292=some (.int .u64):=xD
@[go_sem] theorem ty3 :tyi Tryz.prog 3=⟨1,false,[.int .i64 0],0,0,5,[],8,true,true,false,[],false,false⟩:=xD
@[go_sem] theorem sz3 :Tryz.prog.cellsOf 3=1:=xD
@[go_sem] theorem ty4 :tyi Tryz.prog 4=⟨1,false,[.bool false],0,0,6,[],1,true,true,false,[],false,false⟩:=xD
@[go_sem] theorem sz4 :Tryz.prog.cellsOf 4=1:=xD
@[go_sem] theorem ty5 :tyi Tryz.prog 5=⟨1,false,[.int .u8 0],0,0,5,[],1,true,true,false,[],false,true⟩:=xD
@[go_sem] theorem sz5 :Tryz.prog.cellsOf 5=1:=xD
@[go_sem] theorem ty9 :tyi Tryz.prog 9=⟨1,false,[.string ⟨#[]⟩],0,0,8,[],16,true,true,false,[],false,false⟩:=xD
@[go_sem] theorem sz9 :Tryz.prog.cellsOf 9=1:=xD
@[go_sem] theorem Wp :tyi Tryz.prog 22=⟨1,false,[.slice none 0 0],66,0,1,[],24,true,true,false,[],false,false⟩:=xD
@[go_sem] theorem Vx :Tryz.prog.cellsOf 22=1:=xD
@[go_sem] theorem Ws :tyi Tryz.prog 23=⟨1,false,[.slice none 0 0],61,0,1,[],24,true,true,false,[],false,false⟩:=xD
@[go_sem] theorem VB :Tryz.prog.cellsOf 23=1:=xD
@[go_sem] theorem Wx :tyi Tryz.prog 24=⟨1,false,[.slice none 0 0],94,0,1,[],24,true,true,false,[],false,false⟩:=xD
@[go_sem] theorem VH :Tryz.prog.cellsOf 24=1:=xD
@[go_sem] theorem Tu :tyi Tryz.prog 26=⟨5,true,[.string ⟨#[]⟩, .bool false, .slice none 0 0, .slice none 0 0, .slice none 0 0],0,0,3,[(0,9),(1,4),(2,22),(3,23),(4,24)],96,true,true,false,[(0,1),(1,1),(2,1),(3,1),(4,1)],true,false⟩:=xD
@[go_sem] theorem VL :Tryz.prog.cellsOf 26=5:=xD
@[go_sem] theorem Tv :tyi Tryz.prog 28=⟨5,true,[.int .i64 0, .int .i64 0, .int .i64 0, .int .i64 0, .int .i64 0],0,0,3,[(0,3),(1,3),(2,3),(3,3),(4,3)],40,true,true,true,[(0,1),(1,1),(2,1),(3,1),(4,1)],true,false⟩:=xD
@[go_sem] theorem VP :Tryz.prog.cellsOf 28=5:=xD
@[go_sem] theorem WI :tyi Tryz.prog 31=⟨1,false,[.slice none 0 0],38,0,1,[],24,true,true,false,[],false,false⟩:=xD
@[go_sem] theorem VT :Tryz.prog.cellsOf 31=1:=xD
@[go_sem] theorem WJ :tyi Tryz.prog 32=⟨1,false,[.slice none 0 0],90,0,1,[],24,true,true,false,[],false,false⟩:=xD
@[go_sem] theorem VU :Tryz.prog.cellsOf 32=1:=xD
@[go_sem] theorem WK :tyi Tryz.prog 34=⟨4,true,[.int .i64 0, .slice none 0 0, .slice none 0 0, .slice none 0 0],0,0,3,[(0,3),(1,31),(2,32),(3,31)],80,true,true,false,[(0,1),(1,1),(2,1),(3,1)],true,false⟩:=xD
@[go_sem] theorem VV :Tryz.prog.cellsOf 34=4:=xD
@[go_sem] theorem WL :tyi Tryz.prog 35=⟨1,false,[.int .i64 0],0,0,5,[],8,true,true,false,[],false,false⟩:=xD
@[go_sem] theorem VW :Tryz.prog.cellsOf 35=1:=xD
@[go_sem] theorem WM :tyi Tryz.prog 38=⟨1,false,[.slice none 0 0],3,0,1,[],24,true,true,false,[],false,false⟩:=xD
@[go_sem] theorem VX :Tryz.prog.cellsOf 38=1:=xD
@[go_sem] theorem WN :tyi Tryz.prog 48=⟨1,false,[.slice none 0 0],63,0,1,[],24,true,true,false,[],false,false⟩:=xD
@[go_sem] theorem VY :Tryz.prog.cellsOf 48=1:=xD
@[go_sem] theorem WO :tyi Tryz.prog 54=⟨2,true,[.int .i64 0, .slice none 0 0],0,0,3,[(0,3),(1,32)],32,true,true,false,[(0,1),(1,1)],true,false⟩:=xD
@[go_sem] theorem VZ :Tryz.prog.cellsOf 54=2:=xD
@[go_sem] theorem Tw :tyi Tryz.prog 61=⟨7,true,[.int .i64 0, .int .i64 0, .int .i64 0, .int .i64 0, .string ⟨#[]⟩, .int .i64 0, .int .i64 0],0,0,3,[(0,3),(1,3),(2,3),(3,3),(4,9),(5,3),(6,3)],64,true,true,false,[(0,1),(1,1),(2,1),(3,1),(4,1),(5,1),(6,1)],true,false⟩:=xD
@[go_sem] theorem V0 :Tryz.prog.cellsOf 61=7:=xD
@[go_sem] theorem WP :tyi Tryz.prog 63=⟨4,true,[.int .i64 0, .int .i64 0, .int .i64 0, .int .i64 0],0,0,3,[(0,3),(1,3),(2,3),(3,3)],32,true,true,true,[(0,1),(1,1),(2,1),(3,1)],true,false⟩:=xD
@[go_sem] theorem V1 :Tryz.prog.cellsOf 63=4:=xD
@[go_sem] theorem WQ :tyi Tryz.prog 64=⟨1,false,[.slice none 0 0],92,0,1,[],24,true,true,false,[],false,false⟩:=xD
@[go_sem] theorem V2 :Tryz.prog.cellsOf 64=1:=xD
@[go_sem] theorem Ty :tyi Tryz.prog 66=⟨6,true,[.string ⟨#[]⟩, .string ⟨#[]⟩, .int .i64 0, .int .i64 0, .int .i64 0, .slice none 0 0],0,0,3,[(0,9),(1,9),(2,3),(3,3),(4,3),(5,64)],80,true,true,false,[(0,1),(1,1),(2,1),(3,1),(4,1),(5,1)],true,false⟩:=xD
@[go_sem] theorem V3 :Tryz.prog.cellsOf 66=6:=xD
@[go_sem] theorem WR :tyi Tryz.prog 74=⟨1,false,[.slice none 0 0],142,0,1,[],24,true,true,false,[],false,false⟩:=xD
@[go_sem] theorem V4 :Tryz.prog.cellsOf 74=1:=xD
@[go_sem] theorem WS :tyi Tryz.prog 76=⟨2,true,[.int .i64 0, .slice none 0 0],0,0,3,[(0,3),(1,74)],32,true,true,false,[(0,1),(1,1)],true,false⟩:=xD
@[go_sem] theorem V5 :Tryz.prog.cellsOf 76=2:=xD
@[go_sem] theorem WT :tyi Tryz.prog 90=⟨2,true,[.int .i64 0, .int .i64 0],0,0,3,[(0,3),(1,3)],16,true,true,true,[(0,1),(1,1)],true,false⟩:=xD
@[go_sem] theorem V6 :Tryz.prog.cellsOf 90=2:=xD
@[go_sem] theorem Tz :tyi Tryz.prog 92=⟨2,true,[.string ⟨#[]⟩, .int .i64 0],0,0,3,[(0,9),(1,3)],24,true,true,false,[(0,1),(1,1)],true,false⟩:=xD
@[go_sem] theorem V7 :Tryz.prog.cellsOf 92=2:=xD
@[go_sem] theorem TA :tyi Tryz.prog 94=⟨2,true,[.string ⟨#[]⟩, .int .i64 0],0,0,3,[(0,9),(1,3)],24,true,true,false,[(0,1),(1,1)],true,false⟩:=xD
@[go_sem] theorem V8 :Tryz.prog.cellsOf 94=2:=xD
@[go_sem] theorem WU :tyi Tryz.prog 99=⟨3,true,[.int .i64 0, .slice none 0 0, .slice none 0 0],0,0,3,[(0,54),(2,38)],56,true,true,false,[(0,2),(2,1)],true,false⟩:=xD
@[go_sem] theorem V9 :Tryz.prog.cellsOf 99=3:=xD
@[go_sem] theorem Wa :tyi Tryz.prog 113=⟨1,false,[.map none],0,0,7,[],8,true,true,false,[],false,false⟩:=xD
@[go_sem] theorem Vj :Tryz.prog.cellsOf 113=1:=xD
@[go_sem] theorem Wb :tyi Tryz.prog 117=⟨1,false,[.slice none 0 0],120,0,1,[],24,true,true,false,[],false,false⟩:=xD
@[go_sem] theorem Vk :Tryz.prog.cellsOf 117=1:=xD
@[go_sem] theorem Wc :tyi Tryz.prog 120=⟨3,true,[.int .i64 0, .int .i64 0, .int .i64 0],0,0,3,[(0,3),(1,3),(2,3)],24,true,true,true,[(0,1),(1,1),(2,1)],true,false⟩:=xD
@[go_sem] theorem Vl :Tryz.prog.cellsOf 120=3:=xD
@[go_sem] theorem Wd :tyi Tryz.prog 123=⟨1,false,[.slice none 0 0],126,0,1,[],24,true,true,false,[],false,false⟩:=xD
@[go_sem] theorem Vm :Tryz.prog.cellsOf 123=1:=xD
@[go_sem] theorem We :tyi Tryz.prog 126=⟨2,true,[.int .i64 0, .int .i64 0],0,0,3,[(0,3),(1,3)],16,true,true,true,[(0,1),(1,1)],true,false⟩:=xD
@[go_sem] theorem Vn :Tryz.prog.cellsOf 126=2:=xD
@[go_sem] theorem Wf :tyi Tryz.prog 132=⟨2,true,[.int .i64 0, .int .i64 0],0,0,3,[(0,3),(1,3)],16,true,true,true,[(0,1),(1,1)],true,false⟩:=xD
@[go_sem] theorem Vo :Tryz.prog.cellsOf 132=2:=xD
@[go_sem] theorem Wg :tyi Tryz.prog 142=⟨4,true,[.int .i64 0, .int .i64 0, .int .i64 0, .int .i64 0],0,0,3,[(0,3),(1,3),(2,3),(3,3)],32,true,true,true,[(0,1),(1,1),(2,1),(3,1)],true,false⟩:=xD
@[go_sem] theorem Vp :Tryz.prog.cellsOf 142=4:=xD
@[go_sem] theorem Wh :tyi Tryz.prog 168=⟨1,false,[.int .u64 0],0,0,5,[],8,true,true,false,[],false,false⟩:=xD
@[go_sem] theorem Vq :Tryz.prog.cellsOf 168=1:=xD
@[go_sem] theorem Wi :tyi Tryz.prog 180=⟨1,false,[.slice none 0 0],184,0,1,[],24,true,true,false,[],false,false⟩:=xD
@[go_sem] theorem Vr :Tryz.prog.cellsOf 180=1:=xD
@[go_sem] theorem Wj :tyi Tryz.prog 184=⟨5,true,[.int .i64 0, .bool false, .int .i64 0, .int .i64 0, .int .i64 0],0,0,3,[(0,3),(1,4),(2,3),(3,3),(4,3)],40,true,true,false,[(0,1),(1,1),(2,1),(3,1),(4,1)],true,false⟩:=xD
@[go_sem] theorem Vs :Tryz.prog.cellsOf 184=5:=xD
@[go_sem] theorem Wl :tyi Tryz.prog 198=⟨3,true,[.int .i64 0, .slice none 0 0, .slice none 0 0],0,0,3,[(0,76),(2,38)],56,true,true,false,[(0,2),(2,1)],true,false⟩:=xD
@[go_sem] theorem Vt :Tryz.prog.cellsOf 198=3:=xD
@[go_sem] theorem Wm :tyi Tryz.prog 199=⟨1,false,[.slice none 0 0],206,0,1,[],24,true,true,false,[],false,false⟩:=xD
@[go_sem] theorem Vu :Tryz.prog.cellsOf 199=1:=xD
@[go_sem] theorem Wn :tyi Tryz.prog 204=⟨4,true,[.int .i64 0, .int .i64 0, .int .i64 0, .bool false],0,0,3,[(0,3),(1,3),(2,3),(3,4)],32,true,true,false,[(0,1),(1,1),(2,1),(3,1)],true,false⟩:=xD
@[go_sem] theorem Vv :Tryz.prog.cellsOf 204=4:=xD
@[go_sem] theorem Wo :tyi Tryz.prog 206=⟨7,true,[.int .i64 0, .int .i64 0, .int .i64 0, .int .i64 0, .int .i64 0, .bool false, .bool false],0,0,3,[(0,3),(1,3),(2,204),(6,4)],56,true,true,false,[(0,1),(1,1),(2,4),(6,1)],true,false⟩:=xD
@[go_sem] theorem Vw :Tryz.prog.cellsOf 206=7:=xD
@[go_sem] theorem Wq :tyi Tryz.prog 220=⟨4,true,[.slice none 0 0, .slice none 0 0, .slice none 0 0, .int .i64 0],0,0,3,[(0,31),(1,38),(2,38),(3,3)],80,true,true,false,[(0,1),(1,1),(2,1),(3,1)],true,false⟩:=xD
@[go_sem] theorem Vy :Tryz.prog.cellsOf 220=4:=xD
@[go_sem] theorem Wr :tyi Tryz.prog 225=⟨1,false,[.slice none 0 0],4,0,1,[],24,true,true,false,[],false,false⟩:=xD
@[go_sem] theorem Vz :Tryz.prog.cellsOf 225=1:=xD
@[go_sem] theorem Wt :tyi Tryz.prog 230=⟨1,false,[.slice none 0 0],5,0,1,[],24,true,true,false,[],false,false⟩:=xD
@[go_sem] theorem VC :Tryz.prog.cellsOf 230=1:=xD
@[go_sem] theorem Wu :tyi Tryz.prog 236=⟨8,true,[.int .i64 0, .int .i64 0, .int .i64 0, .int .i64 0, .int .i64 0, .int .i64 0, .int .i64 0, .int .i64 0],3,8,2,[],64,true,true,false,[],false,false⟩:=xD
@[go_sem] theorem VE :Tryz.prog.cellsOf 236=8:=xD
@[go_sem] theorem Wv :tyi Tryz.prog 237=⟨64,true,[.int .i64 0, .int .i64 0, .int .i64 0, .int .i64 0, .int .i64 0, .int .i64 0, .int .i64 0, .int .i64 0, .int .i64 0, .int .i64 0, .int .i64 0, .int .i64 0, .int .i64 0, .int .i64 0, .int .i64 0, .int .i64 0, .int .i64 0, .int .i64 0, .int .i64 0, .int .i64 0, .int .i64 0, .int .i64 0, .int .i64 0, .int .i64 0, .int .i64 0, .int .i64 0, .int .i64 0, .int .i64 0, .int .i64 0, .int .i64 0, .int .i64 0, .int .i64 0, .int .i64 0, .int .i64 0, .int .i64 0, .int .i64 0, .int .i64 0, .int .i64 0, .int .i64 0, .int .i64 0, .int .i64 0, .int .i64 0, .int .i64 0, .int .i64 0, .int .i64 0, .int .i64 0, .int .i64 0, .int .i64 0, .int .i64 0, .int .i64 0, .int .i64 0, .int .i64 0, .int .i64 0, .int .i64 0, .int .i64 0, .int .i64 0, .int .i64 0, .int .i64 0, .int .i64 0, .int .i64 0, .int .i64 0, .int .i64 0, .int .i64 0, .int .i64 0],236,8,2,[],512,true,true,false,[],false,false⟩:=xD
@[go_sem] theorem VF :Tryz.prog.cellsOf 237=64:=xD
@[go_sem] theorem Ww :tyi Tryz.prog 239=⟨66,true,[.int .i64 0, .int .i64 0, .int .i64 0, .int .i64 0, .int .i64 0, .int .i64 0, .int .i64 0, .int .i64 0, .int .i64 0, .int .i64 0, .int .i64 0, .int .i64 0, .int .i64 0, .int .i64 0, .int .i64 0, .int .i64 0, .int .i64 0, .int .i64 0, .int .i64 0, .int .i64 0, .int .i64 0, .int .i64 0, .int .i64 0, .int .i64 0, .int .i64 0, .int .i64 0, .int .i64 0, .int .i64 0, .int .i64 0, .int .i64 0, .int .i64 0, .int .i64 0, .int .i64 0, .int .i64 0, .int .i64 0, .int .i64 0, .int .i64 0, .int .i64 0, .int .i64 0, .int .i64 0, .int .i64 0, .int .i64 0, .int .i64 0, .int .i64 0, .int .i64 0, .int .i64 0, .int .i64 0, .int .i64 0, .int .i64 0, .int .i64 0, .int .i64 0, .int .i64 0, .int .i64 0, .int .i64 0, .int .i64 0, .int .i64 0, .int .i64 0, .int .i64 0, .int .i64 0, .int .i64 0, .int .i64 0, .int .i64 0, .int .i64 0, .int .i64 0, .int .i64 0, .slice none 0 0],0,0,3,[(0,3),(1,237),(65,38)],544,true,true,false,[(0,1),(1,64),(65,1)],true,false⟩:=xD
@[go_sem] theorem VG :Tryz.prog.cellsOf 239=66:=xD
@[go_sem] theorem Wy :tyi Tryz.prog 243=⟨1,false,[.slice none 0 0],245,0,1,[],24,true,true,false,[],false,false⟩:=xD
@[go_sem] theorem VI :Tryz.prog.cellsOf 243=1:=xD
@[go_sem] theorem Wz :tyi Tryz.prog 245=⟨1,false,[.slice none 0 0],204,0,1,[],24,true,true,false,[],false,false⟩:=xD
@[go_sem] theorem VJ :Tryz.prog.cellsOf 245=1:=xD
@[go_sem] theorem WA :tyi Tryz.prog 258=⟨1,false,[.slice none 0 0],261,0,1,[],24,true,true,false,[],false,false⟩:=xD
@[go_sem] theorem VK :Tryz.prog.cellsOf 258=1:=xD
@[go_sem] theorem WB :tyi Tryz.prog 261=⟨2,true,[.int .i64 0, .slice none 0 0],0,0,3,[(0,3),(1,38)],32,true,true,false,[(0,1),(1,1)],true,false⟩:=xD
@[go_sem] theorem VM :Tryz.prog.cellsOf 261=2:=xD
@[go_sem] theorem WC :tyi Tryz.prog 274=⟨1,false,[.int .u32 0],0,0,5,[],4,true,true,false,[],false,false⟩:=xD
@[go_sem] theorem VN :Tryz.prog.cellsOf 274=1:=xD
@[go_sem] theorem WE :tyi Tryz.prog 276=⟨1,false,[.int .u64 0],0,0,5,[],8,true,true,false,[],false,false⟩:=xD
@[go_sem] theorem VO :Tryz.prog.cellsOf 276=1:=xD
@[go_sem] theorem WF :tyi Tryz.prog 281=⟨1,false,[.int .i64 0],0,0,5,[],8,true,true,false,[],false,false⟩:=xD
@[go_sem] theorem VQ :Tryz.prog.cellsOf 281=1:=xD
@[go_sem] theorem WG :tyi Tryz.prog 289=⟨64,true,[.int .u8 0, .int .u8 0, .int .u8 0, .int .u8 0, .int .u8 0, .int .u8 0, .int .u8 0, .int .u8 0, .int .u8 0, .int .u8 0, .int .u8 0, .int .u8 0, .int .u8 0, .int .u8 0, .int .u8 0, .int .u8 0, .int .u8 0, .int .u8 0, .int .u8 0, .int .u8 0, .int .u8 0, .int .u8 0, .int .u8 0, .int .u8 0, .int .u8 0, .int .u8 0, .int .u8 0, .int .u8 0, .int .u8 0, .int .u8 0, .int .u8 0, .int .u8 0, .int .u8 0, .int .u8 0, .int .u8 0, .int .u8 0, .int .u8 0, .int .u8 0, .int .u8 0, .int .u8 0, .int .u8 0, .int .u8 0, .int .u8 0, .int .u8 0, .int .u8 0, .int .u8 0, .int .u8 0, .int .u8 0, .int .u8 0, .int .u8 0, .int .u8 0, .int .u8 0, .int .u8 0, .int .u8 0, .int .u8 0, .int .u8 0, .int .u8 0, .int .u8 0, .int .u8 0, .int .u8 0, .int .u8 0, .int .u8 0, .int .u8 0, .int .u8 0],5,64,2,[],64,true,true,false,[],false,false⟩:=xD
@[go_sem] theorem VR :Tryz.prog.cellsOf 289=64:=xD
@[go_sem] theorem WH :tyi Tryz.prog 292=⟨1,false,[.int .u64 0],0,0,5,[],8,true,true,false,[],false,false⟩:=xD
@[go_sem] theorem VS :Tryz.prog.cellsOf 292=1:=xD
end Go.Proofs.YtjjbhjnpeenbkaaGreatDoor
