/- Facts on the types of this seat's program, as the walk asks for them. -/
import Derived.Test.YtjjbhjnpeenbkaaGreatDoorPSFam
import Derived.Test.YtjjbhjnpeenbkaaGreatDoorPSMac
import Derived.Test.YtjjbhjnpeenbkaaGreatDoorProg
import Derived.KernelRfl
import Derived.Shelf.Sort.Plain
import Derived.Shelf.Slices.In.SortNone
import Derived.Sort.OwnSortedInts
import Derived.Ground.NamesProg
import Derived.RangeFuncBox
import Derived.RangeFuncLeaves
import Derived.Shelf.Abstract
import Derived.WalkKit
import Derived.OwnWalkIn
import Derived.TacticsInMore
import Derived.LoopNIn
import Derived.LoopIn
import Derived.Maps.AppendAt
set_option linter.unusedSimpArgs false
set_option linter.unusedVariables false
set_option maxHeartbeats 16000000
namespace Go.Proofs.YtjjbhjnpeenbkaaGreatDoor
open Go Go.PS Go.Proofs
theorem ZcC :Tryz.prog.follows .mixedOrders=true:=by kernel_rfl
theorem wR {B X:Nat->Prop}{w0:W0}{n:Nat}{Q:Exit->St->Prop}{S:St}{id:Nat}{ops:Array Oper}{draw:Bool}(h:Zab Tryz.prog (λ _=>false) ops.toList ops.toList S [] λ S' fs=>Zhx n ops draw fs.reverse=true/\Q .normal S'):PW Tryz.prog B X w0 n (.region id ops draw) Q S:=Zf0 _ ZcC h
@[go_sem] theorem un3 :Tryz.prog.underlying 3=some (.int .i64):=by kernel_rfl
@[go_sem] theorem un5 :Tryz.prog.underlying 5=some (.int .u8):=by kernel_rfl
@[go_sem] theorem un9 :Tryz.prog.underlying 9=some .string:=by kernel_rfl
@[go_sem] theorem ZCm :Tryz.prog.underlying 168=some (.int .u64):=by kernel_rfl
@[go_sem] theorem ZCn :Tryz.prog.underlying 230=some (.slice 5):=by kernel_rfl
@[go_sem] theorem ZCo :Tryz.prog.underlying 274=some (.int .u32):=by kernel_rfl
@[go_sem] theorem ZCp :Tryz.prog.underlying 276=some (.int .u64):=by kernel_rfl
@[go_sem] theorem ZCq :Tryz.prog.underlying 292=some (.int .u64):=by kernel_rfl
@[go_sem] theorem ty3 :tyi Tryz.prog 3=⟨1,false,[.int .i64 0],0,0,5,[],8,true,true,false,[],false,false⟩:=by kernel_rfl
@[go_sem] theorem sz3 :Tryz.prog.cellsOf 3=1:=by kernel_rfl
@[go_sem] theorem ty4 :tyi Tryz.prog 4=⟨1,false,[.bool false],0,0,6,[],1,true,true,false,[],false,false⟩:=by kernel_rfl
@[go_sem] theorem sz4 :Tryz.prog.cellsOf 4=1:=by kernel_rfl
@[go_sem] theorem ty5 :tyi Tryz.prog 5=⟨1,false,[.int .u8 0],0,0,5,[],1,true,true,false,[],false,true⟩:=by kernel_rfl
@[go_sem] theorem sz5 :Tryz.prog.cellsOf 5=1:=by kernel_rfl
@[go_sem] theorem ty9 :tyi Tryz.prog 9=⟨1,false,[.string ⟨#[]⟩],0,0,8,[],16,true,true,false,[],false,false⟩:=by kernel_rfl
@[go_sem] theorem sz9 :Tryz.prog.cellsOf 9=1:=by kernel_rfl
@[go_sem] theorem ZBT :tyi Tryz.prog 22=⟨1,false,[.slice none 0 0],66,0,1,[],24,true,true,false,[],false,false⟩:=by kernel_rfl
@[go_sem] theorem ZBd :Tryz.prog.cellsOf 22=1:=by kernel_rfl
@[go_sem] theorem ZBW :tyi Tryz.prog 23=⟨1,false,[.slice none 0 0],61,0,1,[],24,true,true,false,[],false,false⟩:=by kernel_rfl
@[go_sem] theorem ZBg :Tryz.prog.cellsOf 23=1:=by kernel_rfl
@[go_sem] theorem ZB1 :tyi Tryz.prog 24=⟨1,false,[.slice none 0 0],94,0,1,[],24,true,true,false,[],false,false⟩:=by kernel_rfl
@[go_sem] theorem ZBl :Tryz.prog.cellsOf 24=1:=by kernel_rfl
@[go_sem] theorem Zzs :tyi Tryz.prog 26=⟨5,true,[.string ⟨#[]⟩, .bool false, .slice none 0 0, .slice none 0 0, .slice none 0 0],0,0,3,[(0,9),(1,4),(2,22),(3,23),(4,24)],96,true,true,false,[(0,1),(1,1),(2,1),(3,1),(4,1)],true,false⟩:=by kernel_rfl
@[go_sem] theorem ZBp :Tryz.prog.cellsOf 26=5:=by kernel_rfl
@[go_sem] theorem Zzt :tyi Tryz.prog 28=⟨5,true,[.int .i64 0, .int .i64 0, .int .i64 0, .int .i64 0, .int .i64 0],0,0,3,[(0,3),(1,3),(2,3),(3,3),(4,3)],40,true,true,true,[(0,1),(1,1),(2,1),(3,1),(4,1)],true,false⟩:=by kernel_rfl
@[go_sem] theorem ZBt :Tryz.prog.cellsOf 28=5:=by kernel_rfl
@[go_sem] theorem ZCb :tyi Tryz.prog 31=⟨1,false,[.slice none 0 0],38,0,1,[],24,true,true,false,[],false,false⟩:=by kernel_rfl
@[go_sem] theorem ZBx :Tryz.prog.cellsOf 31=1:=by kernel_rfl
@[go_sem] theorem ZCc :tyi Tryz.prog 32=⟨1,false,[.slice none 0 0],90,0,1,[],24,true,true,false,[],false,false⟩:=by kernel_rfl
@[go_sem] theorem ZBy :Tryz.prog.cellsOf 32=1:=by kernel_rfl
@[go_sem] theorem ZCd :tyi Tryz.prog 34=⟨4,true,[.int .i64 0, .slice none 0 0, .slice none 0 0, .slice none 0 0],0,0,3,[(0,3),(1,31),(2,32),(3,31)],80,true,true,false,[(0,1),(1,1),(2,1),(3,1)],true,false⟩:=by kernel_rfl
@[go_sem] theorem ZBz :Tryz.prog.cellsOf 34=4:=by kernel_rfl
@[go_sem] theorem ZCe :tyi Tryz.prog 35=⟨1,false,[.int .i64 0],0,0,5,[],8,true,true,false,[],false,false⟩:=by kernel_rfl
@[go_sem] theorem ZBA :Tryz.prog.cellsOf 35=1:=by kernel_rfl
@[go_sem] theorem ZCf :tyi Tryz.prog 38=⟨1,false,[.slice none 0 0],3,0,1,[],24,true,true,false,[],false,false⟩:=by kernel_rfl
@[go_sem] theorem ZBB :Tryz.prog.cellsOf 38=1:=by kernel_rfl
@[go_sem] theorem ZCg :tyi Tryz.prog 54=⟨2,true,[.int .i64 0, .slice none 0 0],0,0,3,[(0,3),(1,32)],32,true,true,false,[(0,1),(1,1)],true,false⟩:=by kernel_rfl
@[go_sem] theorem ZBC :Tryz.prog.cellsOf 54=2:=by kernel_rfl
@[go_sem] theorem Zzu :tyi Tryz.prog 61=⟨7,true,[.int .i64 0, .int .i64 0, .int .i64 0, .int .i64 0, .string ⟨#[]⟩, .int .i64 0, .int .i64 0],0,0,3,[(0,3),(1,3),(2,3),(3,3),(4,9),(5,3),(6,3)],64,true,true,false,[(0,1),(1,1),(2,1),(3,1),(4,1),(5,1),(6,1)],true,false⟩:=by kernel_rfl
@[go_sem] theorem ZBD :Tryz.prog.cellsOf 61=7:=by kernel_rfl
@[go_sem] theorem ZCh :tyi Tryz.prog 64=⟨1,false,[.slice none 0 0],92,0,1,[],24,true,true,false,[],false,false⟩:=by kernel_rfl
@[go_sem] theorem ZBE :Tryz.prog.cellsOf 64=1:=by kernel_rfl
@[go_sem] theorem Zzv :tyi Tryz.prog 66=⟨6,true,[.string ⟨#[]⟩, .string ⟨#[]⟩, .int .i64 0, .int .i64 0, .int .i64 0, .slice none 0 0],0,0,3,[(0,9),(1,9),(2,3),(3,3),(4,3),(5,64)],80,true,true,false,[(0,1),(1,1),(2,1),(3,1),(4,1),(5,1)],true,false⟩:=by kernel_rfl
@[go_sem] theorem ZBF :Tryz.prog.cellsOf 66=6:=by kernel_rfl
@[go_sem] theorem ZCi :tyi Tryz.prog 74=⟨1,false,[.slice none 0 0],142,0,1,[],24,true,true,false,[],false,false⟩:=by kernel_rfl
@[go_sem] theorem ZBG :Tryz.prog.cellsOf 74=1:=by kernel_rfl
@[go_sem] theorem ZCj :tyi Tryz.prog 76=⟨2,true,[.int .i64 0, .slice none 0 0],0,0,3,[(0,3),(1,74)],32,true,true,false,[(0,1),(1,1)],true,false⟩:=by kernel_rfl
@[go_sem] theorem ZBH :Tryz.prog.cellsOf 76=2:=by kernel_rfl
@[go_sem] theorem ZCk :tyi Tryz.prog 90=⟨2,true,[.int .i64 0, .int .i64 0],0,0,3,[(0,3),(1,3)],16,true,true,true,[(0,1),(1,1)],true,false⟩:=by kernel_rfl
@[go_sem] theorem ZBI :Tryz.prog.cellsOf 90=2:=by kernel_rfl
@[go_sem] theorem Zzw :tyi Tryz.prog 92=⟨2,true,[.string ⟨#[]⟩, .int .i64 0],0,0,3,[(0,9),(1,3)],24,true,true,false,[(0,1),(1,1)],true,false⟩:=by kernel_rfl
@[go_sem] theorem ZBJ :Tryz.prog.cellsOf 92=2:=by kernel_rfl
@[go_sem] theorem Zzx :tyi Tryz.prog 94=⟨2,true,[.string ⟨#[]⟩, .int .i64 0],0,0,3,[(0,9),(1,3)],24,true,true,false,[(0,1),(1,1)],true,false⟩:=by kernel_rfl
@[go_sem] theorem ZBK :Tryz.prog.cellsOf 94=2:=by kernel_rfl
@[go_sem] theorem ZCl :tyi Tryz.prog 99=⟨3,true,[.int .i64 0, .slice none 0 0, .slice none 0 0],0,0,3,[(0,54),(2,38)],56,true,true,false,[(0,2),(2,1)],true,false⟩:=by kernel_rfl
@[go_sem] theorem ZBL :Tryz.prog.cellsOf 99=3:=by kernel_rfl
@[go_sem] theorem ZBM :tyi Tryz.prog 113=⟨1,false,[.map none],0,0,7,[],8,true,true,false,[],false,false⟩:=by kernel_rfl
@[go_sem] theorem ZA6 :Tryz.prog.cellsOf 113=1:=by kernel_rfl
@[go_sem] theorem ZBN :tyi Tryz.prog 142=⟨4,true,[.int .i64 0, .int .i64 0, .int .i64 0, .int .i64 0],0,0,3,[(0,3),(1,3),(2,3),(3,3)],32,true,true,true,[(0,1),(1,1),(2,1),(3,1)],true,false⟩:=by kernel_rfl
@[go_sem] theorem ZA7 :Tryz.prog.cellsOf 142=4:=by kernel_rfl
@[go_sem] theorem ZBO :tyi Tryz.prog 168=⟨1,false,[.int .u64 0],0,0,5,[],8,true,true,false,[],false,false⟩:=by kernel_rfl
@[go_sem] theorem ZA8 :Tryz.prog.cellsOf 168=1:=by kernel_rfl
@[go_sem] theorem ZBP :tyi Tryz.prog 198=⟨3,true,[.int .i64 0, .slice none 0 0, .slice none 0 0],0,0,3,[(0,76),(2,38)],56,true,true,false,[(0,2),(2,1)],true,false⟩:=by kernel_rfl
@[go_sem] theorem ZA9 :Tryz.prog.cellsOf 198=3:=by kernel_rfl
@[go_sem] theorem ZBQ :tyi Tryz.prog 199=⟨1,false,[.slice none 0 0],206,0,1,[],24,true,true,false,[],false,false⟩:=by kernel_rfl
@[go_sem] theorem ZBa :Tryz.prog.cellsOf 199=1:=by kernel_rfl
@[go_sem] theorem ZBR :tyi Tryz.prog 204=⟨4,true,[.int .i64 0, .int .i64 0, .int .i64 0, .bool false],0,0,3,[(0,3),(1,3),(2,3),(3,4)],32,true,true,false,[(0,1),(1,1),(2,1),(3,1)],true,false⟩:=by kernel_rfl
@[go_sem] theorem ZBb :Tryz.prog.cellsOf 204=4:=by kernel_rfl
@[go_sem] theorem ZBS :tyi Tryz.prog 206=⟨7,true,[.int .i64 0, .int .i64 0, .int .i64 0, .int .i64 0, .int .i64 0, .bool false, .bool false],0,0,3,[(0,3),(1,3),(2,204),(6,4)],56,true,true,false,[(0,1),(1,1),(2,4),(6,1)],true,false⟩:=by kernel_rfl
@[go_sem] theorem ZBc :Tryz.prog.cellsOf 206=7:=by kernel_rfl
@[go_sem] theorem ZBU :tyi Tryz.prog 220=⟨4,true,[.slice none 0 0, .slice none 0 0, .slice none 0 0, .int .i64 0],0,0,3,[(0,31),(1,38),(2,38),(3,3)],80,true,true,false,[(0,1),(1,1),(2,1),(3,1)],true,false⟩:=by kernel_rfl
@[go_sem] theorem ZBe :Tryz.prog.cellsOf 220=4:=by kernel_rfl
@[go_sem] theorem ZBV :tyi Tryz.prog 225=⟨1,false,[.slice none 0 0],4,0,1,[],24,true,true,false,[],false,false⟩:=by kernel_rfl
@[go_sem] theorem ZBf :Tryz.prog.cellsOf 225=1:=by kernel_rfl
@[go_sem] theorem ZBX :tyi Tryz.prog 230=⟨1,false,[.slice none 0 0],5,0,1,[],24,true,true,false,[],false,false⟩:=by kernel_rfl
@[go_sem] theorem ZBh :Tryz.prog.cellsOf 230=1:=by kernel_rfl
@[go_sem] theorem ZBY :tyi Tryz.prog 236=⟨8,true,[.int .i64 0, .int .i64 0, .int .i64 0, .int .i64 0, .int .i64 0, .int .i64 0, .int .i64 0, .int .i64 0],3,8,2,[],64,true,true,false,[],false,false⟩:=by kernel_rfl
@[go_sem] theorem ZBi :Tryz.prog.cellsOf 236=8:=by kernel_rfl
@[go_sem] theorem ZBZ :tyi Tryz.prog 237=⟨64,true,[.int .i64 0, .int .i64 0, .int .i64 0, .int .i64 0, .int .i64 0, .int .i64 0, .int .i64 0, .int .i64 0, .int .i64 0, .int .i64 0, .int .i64 0, .int .i64 0, .int .i64 0, .int .i64 0, .int .i64 0, .int .i64 0, .int .i64 0, .int .i64 0, .int .i64 0, .int .i64 0, .int .i64 0, .int .i64 0, .int .i64 0, .int .i64 0, .int .i64 0, .int .i64 0, .int .i64 0, .int .i64 0, .int .i64 0, .int .i64 0, .int .i64 0, .int .i64 0, .int .i64 0, .int .i64 0, .int .i64 0, .int .i64 0, .int .i64 0, .int .i64 0, .int .i64 0, .int .i64 0, .int .i64 0, .int .i64 0, .int .i64 0, .int .i64 0, .int .i64 0, .int .i64 0, .int .i64 0, .int .i64 0, .int .i64 0, .int .i64 0, .int .i64 0, .int .i64 0, .int .i64 0, .int .i64 0, .int .i64 0, .int .i64 0, .int .i64 0, .int .i64 0, .int .i64 0, .int .i64 0, .int .i64 0, .int .i64 0, .int .i64 0, .int .i64 0],236,8,2,[],512,true,true,false,[],false,false⟩:=by kernel_rfl
@[go_sem] theorem ZBj :Tryz.prog.cellsOf 237=64:=by kernel_rfl
@[go_sem] theorem ZB0 :tyi Tryz.prog 239=⟨66,true,[.int .i64 0, .int .i64 0, .int .i64 0, .int .i64 0, .int .i64 0, .int .i64 0, .int .i64 0, .int .i64 0, .int .i64 0, .int .i64 0, .int .i64 0, .int .i64 0, .int .i64 0, .int .i64 0, .int .i64 0, .int .i64 0, .int .i64 0, .int .i64 0, .int .i64 0, .int .i64 0, .int .i64 0, .int .i64 0, .int .i64 0, .int .i64 0, .int .i64 0, .int .i64 0, .int .i64 0, .int .i64 0, .int .i64 0, .int .i64 0, .int .i64 0, .int .i64 0, .int .i64 0, .int .i64 0, .int .i64 0, .int .i64 0, .int .i64 0, .int .i64 0, .int .i64 0, .int .i64 0, .int .i64 0, .int .i64 0, .int .i64 0, .int .i64 0, .int .i64 0, .int .i64 0, .int .i64 0, .int .i64 0, .int .i64 0, .int .i64 0, .int .i64 0, .int .i64 0, .int .i64 0, .int .i64 0, .int .i64 0, .int .i64 0, .int .i64 0, .int .i64 0, .int .i64 0, .int .i64 0, .int .i64 0, .int .i64 0, .int .i64 0, .int .i64 0, .int .i64 0, .slice none 0 0],0,0,3,[(0,3),(1,237),(65,38)],544,true,true,false,[(0,1),(1,64),(65,1)],true,false⟩:=by kernel_rfl
@[go_sem] theorem ZBk :Tryz.prog.cellsOf 239=66:=by kernel_rfl
@[go_sem] theorem ZB2 :tyi Tryz.prog 243=⟨1,false,[.slice none 0 0],245,0,1,[],24,true,true,false,[],false,false⟩:=by kernel_rfl
@[go_sem] theorem ZBm :Tryz.prog.cellsOf 243=1:=by kernel_rfl
@[go_sem] theorem ZB3 :tyi Tryz.prog 245=⟨1,false,[.slice none 0 0],204,0,1,[],24,true,true,false,[],false,false⟩:=by kernel_rfl
@[go_sem] theorem ZBn :Tryz.prog.cellsOf 245=1:=by kernel_rfl
@[go_sem] theorem ZB4 :tyi Tryz.prog 258=⟨1,false,[.slice none 0 0],261,0,1,[],24,true,true,false,[],false,false⟩:=by kernel_rfl
@[go_sem] theorem ZBo :Tryz.prog.cellsOf 258=1:=by kernel_rfl
@[go_sem] theorem ZB5 :tyi Tryz.prog 261=⟨2,true,[.int .i64 0, .slice none 0 0],0,0,3,[(0,3),(1,38)],32,true,true,false,[(0,1),(1,1)],true,false⟩:=by kernel_rfl
@[go_sem] theorem ZBq :Tryz.prog.cellsOf 261=2:=by kernel_rfl
@[go_sem] theorem ZB6 :tyi Tryz.prog 274=⟨1,false,[.int .u32 0],0,0,5,[],4,true,true,false,[],false,false⟩:=by kernel_rfl
@[go_sem] theorem ZBr :Tryz.prog.cellsOf 274=1:=by kernel_rfl
@[go_sem] theorem ZB7 :tyi Tryz.prog 276=⟨1,false,[.int .u64 0],0,0,5,[],8,true,true,false,[],false,false⟩:=by kernel_rfl
@[go_sem] theorem ZBs :Tryz.prog.cellsOf 276=1:=by kernel_rfl
@[go_sem] theorem ZB8 :tyi Tryz.prog 281=⟨1,false,[.int .i64 0],0,0,5,[],8,true,true,false,[],false,false⟩:=by kernel_rfl
@[go_sem] theorem ZBu :Tryz.prog.cellsOf 281=1:=by kernel_rfl
@[go_sem] theorem ZB9 :tyi Tryz.prog 289=⟨64,true,[.int .u8 0, .int .u8 0, .int .u8 0, .int .u8 0, .int .u8 0, .int .u8 0, .int .u8 0, .int .u8 0, .int .u8 0, .int .u8 0, .int .u8 0, .int .u8 0, .int .u8 0, .int .u8 0, .int .u8 0, .int .u8 0, .int .u8 0, .int .u8 0, .int .u8 0, .int .u8 0, .int .u8 0, .int .u8 0, .int .u8 0, .int .u8 0, .int .u8 0, .int .u8 0, .int .u8 0, .int .u8 0, .int .u8 0, .int .u8 0, .int .u8 0, .int .u8 0, .int .u8 0, .int .u8 0, .int .u8 0, .int .u8 0, .int .u8 0, .int .u8 0, .int .u8 0, .int .u8 0, .int .u8 0, .int .u8 0, .int .u8 0, .int .u8 0, .int .u8 0, .int .u8 0, .int .u8 0, .int .u8 0, .int .u8 0, .int .u8 0, .int .u8 0, .int .u8 0, .int .u8 0, .int .u8 0, .int .u8 0, .int .u8 0, .int .u8 0, .int .u8 0, .int .u8 0, .int .u8 0, .int .u8 0, .int .u8 0, .int .u8 0, .int .u8 0],5,64,2,[],64,true,true,false,[],false,false⟩:=by kernel_rfl
@[go_sem] theorem ZBv :Tryz.prog.cellsOf 289=64:=by kernel_rfl
@[go_sem] theorem ZCa :tyi Tryz.prog 292=⟨1,false,[.int .u64 0],0,0,5,[],8,true,true,false,[],false,false⟩:=by kernel_rfl
@[go_sem] theorem ZBw :Tryz.prog.cellsOf 292=1:=by kernel_rfl
set_option maxRecDepth 100000
attribute [local irreducible] Zab wpG Zaa
abbrev Arc :=Int×Int
abbrev ZaY (a:Arc):D:= .ag [.int a.1, .int a.2]
theorem Znl (p q:Arc):(decide (p.1=q.1)&&decide (p.2=q.2))=decide (p=q):=by
 rw[gK];simp[Prod.ext_iff]
abbrev Zak (l:List Arc):D:= .sl (l.map ZaY)
abbrev Zac (l:List Int):D:= .sl (l.map D.int)
abbrev Gr :=Int×List Arc
abbrev gD (g:Gr):D:= .ag [.int g.1,Zak g.2]
def Ze8 (n:Int)(a:Arc):Bool:=decide (0<=a.1/\a.1<n/\0<=a.2/\a.2<n)
def gOk (g:Gr):Bool:=decide (0<=g.1/\g.1<=64/\g.2.length<=256)&& !g.2.any (λ a=> !Ze8 g.1 a)
theorem Zhl {g:Gr}(h:gOk g=true):0<=g.1/\g.1<=64/\g.2.length<=256/\∀(k:Nat) a,g.2[k]? =some a->0<=a.1/\a.1<g.1/\0<=a.2/\a.2<g.1:=by
 simp only[gOk,uO,uG,yK,qU]at h;obtain⟨⟨h1,h2,h3⟩,h4⟩:=h;refine⟨h1,h2,h3,λ k a hk=>?_⟩;have:=h4 a (uA hk);simpa[Ze8]using this
theorem Ze7 (g:Gr):Zaa Tryz.prog 97 [gD g] (.bool (gOk g)):=by
 obtain⟨n,l⟩:=g;refine kE Tryz.func97 ?_;intro hat B X w0;have hl:=Zb3 0 1 hat rfl rfl;rw[uE]at hl;refine kw kO kc0 kc0 ?_
 repeat' first|exact True.intro|refine Bn.mk ?_ ?_|intro hc
 all_goals try (refine Zaj ?_;simp[gOk];omega)
 refine Zai (λ(k:Nat)=>k<=l.length/\∀(j:Nat) y,j<k->l[j]? =some y->(!Ze8 n y)=false) (λ k=>[(1, .ptr 1 0 0 0),(20, .d (Zak l)),(21, .int l.length),(22, .int k)]) (λ k=>[(1, .cells [.int n, .d (Zak l)])]) (λ k=>l.length-k) 0 ?_ ?_ ?_
 ·exact⟨uJ _,λ j y h=>by omega⟩
 ·exact kN kc0 []
 ·rintro k ⟨hk,hinv⟩;rcases uF k l.length with hlt|hge
  ·obtain⟨p,hp⟩:=Zad hlt;refine kw kO (kc1 hp) kc0 ?_
   repeat' first|exact True.intro|refine Bn.mk ?_ ?_|intro hc
   all_goals try
    refine Zaj ?_;rw[gOk,ZcZ hp (by simp[Ze8];omega)];simp
   ·refine⟨k+1,?_,eL [] _ _ (by refine⟨?_,?_⟩<;>(repeat' first|exact fmn|refine fmc ⟨(by first|rfl|(simp(disch:=omega) only[go_sem,simprocAttr,inL];first|done|omega|(congr 1;done))),?_⟩);done),?_⟩
    ·exact⟨by omega,ZbI hinv hp (by simp[Ze8];omega)⟩
    ·omega
  ·refine kw1 kO kc0 kc0 ?_;refine Zaj ?_;rw[gOk,ZdB (λ j y hj=>hinv j y (by omega))];simp;omega
theorem ZiL (g:Gr):Zaa Tryz.prog 112 [gD g] (.bool (gOk g)):=by
 obtain⟨n,l⟩:=g;refine kE Tryz.func112 ?_;intro hat B X w0;have hl:=Zb3 0 1 hat rfl rfl;rw[uE]at hl;refine kw kO kc0 kc0 ?_
 repeat' first|exact True.intro|refine Bn.mk ?_ ?_|intro hc
 all_goals try (refine Zaj ?_;simp[gOk];omega)
 refine Zai (λ(k:Nat)=>k<=l.length/\∀(j:Nat) y,j<k->l[j]? =some y->(!Ze8 n y)=false) (λ k=>[(1, .ptr 1 0 0 0),(3, .int k)]) (λ k=>[(1, .cells [.int n, .d (Zak l)])]) (λ k=>l.length-k) 0 ?_ ?_ ?_
 ·exact⟨uJ _,λ j y h=>by omega⟩
 ·exact kN kc0 []
 ·rintro k ⟨hk,hinv⟩;rcases uF k l.length with hlt|hge
  ·obtain⟨p,hp⟩:=Zad hlt;refine kw kO (kc1 hp) kc0 ?_
   repeat' first|exact True.intro|refine Bn.mk ?_ ?_|intro hc
   all_goals try
    refine Zaj ?_;rw[gOk,ZcZ hp (by simp[Ze8];omega)];simp
   ·refine⟨k+1,?_,eL [] _ _ (by refine⟨?_,?_⟩<;>(repeat' first|exact fmn|refine fmc ⟨(by first|rfl|(simp(disch:=omega) only[go_sem,simprocAttr,inL];first|done|omega|(congr 1;done))),?_⟩);done),?_⟩
    ·exact⟨by omega,ZbI hinv hp (by simp[Ze8];omega)⟩
    ·omega
  ·refine kw1 kO kc0 kc0 ?_;refine Zaj ?_;rw[gOk,ZdB (λ j y hj=>hinv j y (by omega))];simp;omega
theorem ZtD (l m:List Arc):Zaa Tryz.prog 174 [Zak l,Zak m] (.bool (decide (l=m))):=by
 refine kE Tryz.func174 ?_;intro hat B X w0;have hl:=Zbb 0 hat rfl;have hm:=Zbb 1 hat rfl;rw[uE]at hl hm;by_cases hlm:l.length=m.length
 ·refine kw1 kO kc0 kc0 ?_;refine Zai (λ(k:Nat)=>k<=l.length/\l.take k=m.take k) (λ k=>[(0, .d (Zak l)),(1, .d (Zak m)),(12, .int l.length),(13, .int k)]) (λ k=>[]) (λ k=>l.length-k) 0 ?_ ?_ ?_
  ·exact⟨uJ _,rfl⟩
  ·exact kN kc0 []
  ·rintro k ⟨hk,hinv⟩;rcases uF k l.length with hlt|hge
   ·obtain⟨p,hp⟩:=Zad hlt;obtain⟨q,hq⟩:=Zad (hlm▸hlt);refine kw kO (kc3 hp hq @Znl) kc0 ?_
    repeat' first|exact True.intro|refine Bn.mk ?_ ?_|intro hc
    ·refine Zaj ?_;rw[yC (Zgm hp hq hc)]
    ·refine⟨k+1,?_,eL [] _ _ (by refine⟨?_,?_⟩<;>(repeat' first|exact fmn|refine fmc ⟨(by first|rfl|(simp(disch:=omega) only[go_sem,simprocAttr,inL];first|done|omega|(congr 1;done))),?_⟩);done),?_⟩
     ·exact⟨by omega,by rw[ZaD hp,ZaD hq,hinv,hc]⟩
     ·omega
   ·refine kw1 kO kc0 kc0 ?_;refine Zaj ?_;rw[uD hge,uD (by omega)]at hinv;simp[hinv]
 ·refine kw1 kO kc0 kc0 ?_;refine Zaj ?_;rw[yC];rintro rfl;exact hlm rfl
def placeF (l:List Int)(n:Int):Int:=ZcD (l.findIdx? (λ x=>decide (x=n)))
theorem ZjA (l:List Int)(n:Int):Zaa Tryz.prog 170 [Zac l, .int n] (.int (placeF l n)):=by
 refine kE Tryz.func170 ?_;intro hat B X w0;have hl:=Zbb 0 hat rfl;rw[uE]at hl;refine kw1 kO kc0 kc0 ?_;refine Zai (λ(k:Nat)=>k<=l.length/\∀(j:Nat) y,j<k->l[j]? =some y->(decide (y=n))=false) (λ k=>[(0, .d (Zac l)),(1, .int n),(7, .int l.length),(8, .int k)]) (λ k=>[]) (λ k=>l.length-k) 0 ?_ ?_ ?_
 ·exact⟨uJ _,λ j y h=>by omega⟩
 ·exact kN kc0 []
 ·rintro k ⟨hk,hinv⟩;rcases uF k l.length with hlt|hge
  ·obtain⟨p,hp⟩:=Zad hlt;refine kw kO (kc1 hp) kc0 ?_
   repeat' first|exact True.intro|refine Bn.mk ?_ ?_|intro hc
   ·refine Zah ?_;rw[placeF,Zer hp (by simpa using hc.symm) hinv];rfl
   ·refine⟨k+1,?_,eL [] _ _ (by refine⟨?_,?_⟩<;>(repeat' first|exact fmn|refine fmc ⟨(by first|rfl|(simp(disch:=omega) only[go_sem,simprocAttr,inL];first|done|omega|(congr 1;done))),?_⟩);done),?_⟩
    ·exact⟨by omega,ZbI hinv hp (by simpa using λ h=>hc h.symm)⟩
    ·omega
  ·refine kw1 kO kc0 kc0 ?_;refine Zah ?_;rw[placeF,ZeS (λ j y hy=>hinv j y (by have:=(uB.1 hy).1;omega) hy)];rfl
theorem Zog (l m:List Int):Zaa Tryz.prog 173 [Zac l,Zac m] (.bool (decide (l=m))):=by
 refine kE Tryz.func173 ?_;intro hat B X w0;have hl:=Zbb 0 hat rfl;have hm:=Zbb 1 hat rfl;rw[uE]at hl hm;by_cases hlm:l.length=m.length
 ·refine kw1 kO kc0 kc0 ?_;refine Zai (λ(k:Nat)=>k<=l.length/\l.take k=m.take k) (λ k=>[(0, .d (Zac l)),(1, .d (Zac m)),(12, .int l.length),(13, .int k)]) (λ k=>[]) (λ k=>l.length-k) 0 ?_ ?_ ?_
  ·exact⟨uJ _,rfl⟩
  ·exact kN kc0 []
  ·rintro k ⟨hk,hinv⟩;rcases uF k l.length with hlt|hge
   ·obtain⟨p,hp⟩:=Zad hlt;obtain⟨q,hq⟩:=Zad (hlm▸hlt);refine kw kO (kc2 hp hq) kc0 ?_
    repeat' first|exact True.intro|refine Bn.mk ?_ ?_|intro hc
    ·refine Zaj ?_;rw[yC (Zgm hp hq hc)]
    ·refine⟨k+1,?_,eL [] _ _ (by refine⟨?_,?_⟩<;>(repeat' first|exact fmn|refine fmc ⟨(by first|rfl|(simp(disch:=omega) only[go_sem,simprocAttr,inL];first|done|omega|(congr 1;done))),?_⟩);done),?_⟩
     ·exact⟨by omega,by rw[ZaD hp,ZaD hq,hinv,hc]⟩
     ·omega
   ·refine kw1 kO kc0 kc0 ?_;refine Zaj ?_;rw[uD hge,uD (by omega)]at hinv;simp[hinv]
 ·refine kw1 kO kc0 kc0 ?_;refine Zaj ?_;rw[yC];rintro rfl;exact hlm rfl
abbrev Zae (l:List (List Int)):D:= .sl (l.map Zac)
theorem ZtC (l m:List (List Int)):Zaa Tryz.prog 172 [Zae l,Zae m, .fn 173 []] (.bool (decide (l=m))):=by
 refine kE Tryz.func172 ?_;intro hat B X w0;have hl:=Zbb 0 hat rfl;have hm:=Zbb 1 hat rfl;rw[uE]at hl hm;by_cases hlm:l.length=m.length
 ·refine kw1 kO kc0 kc0 ?_;refine Zai (λ(k:Nat)=>k<=l.length/\l.take k=m.take k) (λ k=>[(0, .d (Zae l)),(1, .d (Zae m)),(2, .d (.fn 173 [])),(15, .d (Zae l)),(16, .int l.length),(17, .int k)]) (λ k=>[]) (λ k=>l.length-k) 0 ?_ ?_ ?_
  ·exact⟨uJ _,rfl⟩
  ·exact kN kc0 []
  ·rintro k ⟨hk,hinv⟩;rcases uF k l.length with hlt|hge
   ·obtain⟨p,hp⟩:=Zad hlt;obtain⟨q,hq⟩:=Zad (hlm▸hlt);have he:=Zog p q;by_cases hpq:p=q
    ·rw[yM hpq]at he;refine kw1 kO (kc2 hp hq) (kc1 he) ?_;refine⟨k+1,?_,kN kc0 [],?_⟩
     ·exact⟨by omega,by rw[ZaD hp,ZaD hq,hinv,hpq]⟩
     ·omega
    ·rw[yC hpq]at he;refine kw1 kO (kc2 hp hq) (kc1 he) ?_;refine Zaj ?_;rw[yC (Zgm hp hq hpq)]
   ·refine kw1 kO kc0 kc0 ?_;refine Zaj ?_;rw[uD hge,uD (by omega)]at hinv;simp[hinv]
 ·refine kw1 kO kc0 kc0 ?_;refine Zaj ?_;rw[yC];rintro rfl;exact hlm rfl
theorem Zup (l:List Int)(g:Nat)(p:Int->Bool)(hp:∀x,Zaa Tryz.prog g [.int x] (.bool (p x))):Zaa Tryz.prog 163 [Zac l, .fn g []] (.int (ZcD (l.findIdx? p))):=by
 refine kE Tryz.func163 ?_;intro hat B X w0;have hl:=Zbb 0 hat rfl;rw[uE]at hl;refine kw1 kO kc0 kc0 ?_;refine Zai (λ(k:Nat)=>k<=l.length/\∀(j:Nat) y,j<k->l[j]? =some y->p y=false) (λ k=>[(0, .d (Zac l)),(1, .d (.fn g [])),(7, .int l.length),(8, .int k)]) (λ k=>[]) (λ k=>l.length-k) 0 ?_ ?_ ?_
 ·exact⟨uJ _,λ j y h=>by omega⟩
 ·exact kN kc0 []
 ·rintro k ⟨hk,hinv⟩;rcases uF k l.length with hlt|hge
  ·obtain⟨x,hx⟩:=Zad hlt;have hpx:=hp x;rcases hb:p x with _|_<;>rw[hb]at hpx
   ·refine kw1 kO (kc1 hx) (kc1 hpx) ?_;refine⟨k+1,?_,kN kc0 [],?_⟩
    ·exact⟨by omega,ZbI hinv hx hb⟩
    ·omega
   ·refine kw1 kO (kc1 hx) (kc1 hpx) ?_;refine Zah ?_;rw[Zer hx hb hinv];rfl
  ·refine kw1 kO kc0 kc0 ?_;refine Zah ?_;rw[ZeS (λ j y hy=>hinv j y (by have:=(uB.1 hy).1;omega) hy)];rfl
theorem Zuo (l:List Arc)(g:Nat)(p:Arc->Bool)(hp:∀x,Zaa Tryz.prog g [ZaY x] (.bool (p x))):Zaa Tryz.prog 164 [Zak l, .fn g []] (.int (ZcD (l.findIdx? p))):=by
 refine kE Tryz.func164 ?_;intro hat B X w0;have hl:=Zbb 0 hat rfl;rw[uE]at hl;refine kw1 kO kc0 kc0 ?_;refine Zai (λ(k:Nat)=>k<=l.length/\∀(j:Nat) y,j<k->l[j]? =some y->p y=false) (λ k=>[(0, .d (Zak l)),(1, .d (.fn g [])),(7, .int l.length),(8, .int k)]) (λ k=>[]) (λ k=>l.length-k) 0 ?_ ?_ ?_
 ·exact⟨uJ _,λ j y h=>by omega⟩
 ·exact kN kc0 []
 ·rintro k ⟨hk,hinv⟩;rcases uF k l.length with hlt|hge
  ·obtain⟨x,hx⟩:=Zad hlt;have hpx:=hp x;rcases hb:p x with _|_<;>rw[hb]at hpx
   ·refine kw1 kO (kc1 hx) (kc1 hpx) ?_;refine⟨k+1,?_,kN kc0 [],?_⟩
    ·exact⟨by omega,ZbI hinv hx hb⟩
    ·omega
   ·refine kw1 kO (kc1 hx) (kc1 hpx) ?_;refine Zah ?_;rw[Zer hx hb hinv];rfl
  ·refine kw1 kO kc0 kc0 ?_;refine Zah ?_;rw[ZeS (λ j y hy=>hinv j y (by have:=(uB.1 hy).1;omega) hy)];rfl
theorem Zjr (l:List Int)(g:Nat)(p:Int->Bool)(hp:∀x,Zaa Tryz.prog g [.int x] (.bool (p x))):Zaa Tryz.prog 98 [Zac l, .fn g []] (.bool (l.any p)):=by
 have h:=Zup l g p hp;refine kE Tryz.func98 ?_;intro hat B X w0;refine kw1 kO kc0 (kc1 h) ?_;exact Zaj (ZgI p l)
theorem ZnY (l:List Arc)(g:Nat)(p:Arc->Bool)(hp:∀x,Zaa Tryz.prog g [ZaY x] (.bool (p x))):Zaa Tryz.prog 100 [Zak l, .fn g []] (.bool (l.any p)):=by
 have h:=Zuo l g p hp;refine kE Tryz.func100 ?_;intro hat B X w0;refine kw1 kO kc0 (kc1 h) ?_;exact Zaj (ZgI p l)
def ZcF (k:Int):Bool:=decide (k<0\/255<k)
theorem Zl9 (k:Int):Zaa Tryz.prog 99 [.int k] (.bool (ZcF k)):=by
 refine kE Tryz.func99 ?_;intro hat B X w0;refine kw kO kc0 kc0 ?_
 repeat' first|exact True.intro|refine Bn.mk ?_ ?_|intro hc
 all_goals
  refine Zaj ?_;simp[ZcF];omega
def Zc7 (a:Arc):Bool:=decide (a.1=a.2)
theorem Zpb (a:Arc):Zaa Tryz.prog 101 [ZaY a] (.bool (Zc7 a)):=by
 refine kE Tryz.func101 ?_;intro hat B X w0;refine kw1 kO kc0 kc0 ?_
 all_goals exact Zaj rfl
end Go.Proofs.YtjjbhjnpeenbkaaGreatDoor
namespace Go.Proofs
open Go.Shelf
def Tryz.laysSort_ren :Go.Shelf.Ren:=⟨λ|189=>219|125=>250|257=>249|128=>274|129=>275|294=>265|295=>266|296=>267|297=>268|298=>269|299=>270|216=>271|300=>272|301=>273|328=>283|329=>284|330=>285|331=>286|332=>287|215=>282|343=>291|n=>n,λ|28=>38|3=>3|46=>168|0=>0|51=>274|53=>276|4=>4|183=>282|182=>281|131=>285|5=>5|9=>9|218=>292|222=>296|228=>298|229=>160|n=>n,λ|n=>n⟩
theorem Tryz.laysSort :Go.Proofs.Lays.n189 Tryz.prog Tryz.laysSort_ren:={
 mixed:=by kernel_rfl
 f125:=Tryz.func250.trans (qW some (by kernel_rfl))
 f128:=Tryz.func274.trans (qW some (by kernel_rfl))
 f129:=Tryz.func275.trans (qW some (by kernel_rfl))
 f189:=Tryz.func219.trans (qW some (by kernel_rfl))
 f215:=Tryz.func282.trans (qW some (by kernel_rfl))
 f216:=Tryz.func271.trans (qW some (by kernel_rfl))
 f257:=Tryz.func249.trans (qW some (by kernel_rfl))
 f294:=Tryz.func265.trans (qW some (by kernel_rfl))
 f295:=Tryz.func266.trans (qW some (by kernel_rfl))
 f296:=Tryz.func267.trans (qW some (by kernel_rfl))
 f297:=Tryz.func268.trans (qW some (by kernel_rfl))
 f298:=Tryz.func269.trans (qW some (by kernel_rfl))
 f299:=Tryz.func270.trans (qW some (by kernel_rfl))
 f300:=Tryz.func272.trans (qW some (by kernel_rfl))
 f301:=Tryz.func273.trans (qW some (by kernel_rfl))
 f328:=Tryz.func283.trans (qW some (by kernel_rfl))
 f329:=Tryz.func284.trans (qW some (by kernel_rfl))
 f330:=Tryz.func285.trans (qW some (by kernel_rfl))
 f331:=Tryz.func286.trans (qW some (by kernel_rfl))
 f332:=Tryz.func287.trans (qW some (by kernel_rfl))
 f343:=Tryz.func291.trans (qW some (by kernel_rfl))
 t0:=Tryz.underlying0
 a0:=Tryz.isAgg0
 z0:=Tryz.sizeOf0
 v0:=Tryz.zeroValue0
 t3:=Tryz.underlying3
 a3:=Tryz.isAgg3
 z3:=Tryz.sizeOf3
 v3:=Tryz.zeroValue3
 t4:=Tryz.underlying4
 a4:=Tryz.isAgg4
 z4:=Tryz.sizeOf4
 v4:=Tryz.zeroValue4
 t5:=Tryz.underlying5
 a5:=Tryz.isAgg5
 z5:=Tryz.sizeOf5
 v5:=Tryz.zeroValue5
 t9:=Tryz.underlying9
 a9:=Tryz.isAgg9
 z9:=Tryz.sizeOf9
 v9:=Tryz.zeroValue9
 t28:=Tryz.underlying38
 a28:=Tryz.isAgg38
 z28:=Tryz.sizeOf38
 v28:=Tryz.zeroValue38
 t46:=Tryz.underlying168
 a46:=Tryz.isAgg168
 z46:=Tryz.sizeOf168
 v46:=Tryz.zeroValue168
 t51:=Tryz.underlying274
 a51:=Tryz.isAgg274
 z51:=Tryz.sizeOf274
 v51:=Tryz.zeroValue274
 t53:=Tryz.underlying276
 a53:=Tryz.isAgg276
 z53:=Tryz.sizeOf276
 v53:=Tryz.zeroValue276
 t131:=Tryz.underlying285
 a131:=Tryz.isAgg285
 z131:=Tryz.sizeOf285
 v131:=Tryz.zeroValue285
 t182:=Tryz.underlying281
 a182:=Tryz.isAgg281
 z182:=Tryz.sizeOf281
 v182:=Tryz.zeroValue281
 t183:=Tryz.underlying282
 a183:=Tryz.isAgg282
 z183:=Tryz.sizeOf282
 v183:=Tryz.zeroValue282
 t218:=Tryz.underlying292
 a218:=Tryz.isAgg292
 z218:=Tryz.sizeOf292
 v218:=Tryz.zeroValue292
 t222:=Tryz.underlying296
 a222:=Tryz.isAgg296
 z222:=Tryz.sizeOf296
 v222:=Tryz.zeroValue296
 t228:=Tryz.underlying298
 a228:=Tryz.isAgg298
 z228:=Tryz.sizeOf298
 v228:=Tryz.zeroValue298
 t229:=Tryz.underlying160
 a229:=Tryz.isAgg160
 z229:=Tryz.sizeOf160
 v229:=Tryz.zeroValue160}
end Go.Proofs
namespace Go.Proofs.YtjjbhjnpeenbkaaGreatDoor
open Go Go.PS Go.Proofs Go.Sort Go.RowKit
abbrev intsL (l:List Int):List D:=l.map D.int
def ZaF (l:List Int):List Int:=l.mergeSort λ x y=>decide (x<=y)
theorem ZqS (l:List Int):(ZaF l).length=l.length:=by simp[ZaF]
end Go.Proofs.YtjjbhjnpeenbkaaGreatDoor
namespace Go.Proofs.YtjjbhjnpeenbkaaGreatDoor
open Go Go.Proofs Go.RowKit Go.Shelf
attribute [local go_sem] Oper.semAt_some
def Zdd {α:Type}(f:Nat->α)(k:Nat):List α:=(List.range k).map f
theorem Zrk {α:Type}(f:Nat->α)(k:Nat):Zdd f (k+1)=Zdd f k++[f k]:=by simp[Zdd,gG]
theorem ZzK {α:Type}(f:Nat->α)(k:Nat):(Zdd f k).length=k:=by simp[Zdd]
theorem ZzJ (zs:List Int):Zdd (λ j=>zs[j]?.getD 0) zs.length=zs:=by
 apply List.ext_getElem
 ·simp[Zdd]
 ·intro i h1 h2;simp[Zdd,h2]
theorem ZzL (zs:List Int){k:Nat}(hk:k<=zs.length):Zdd (λ j=>zs[j]?.getD 0) k=zs.take k:=by
 apply List.ext_getElem
 ·simp[Zdd,hk]
 ·intro i h1 h2;have:i<zs.length:=by simp[Zdd]at h1;omega
  simp[Zdd,this]
def ZfF (n₀:Nat)(W:World)(sv:Value)(zs:List Int):Prop:=
 (∃a cap,sv= .slice a 0 cap/\zs=[])\/∃b off cap,sv= .slice (some ⟨b,off,none⟩) zs.length cap/\b<n₀/\∀j,j<zs.length->W.cell? ⟨b,off+j,none⟩=some (.int .i64 (zs[j]?.getD 0))
theorem ZfF.below {n₀:Nat}{A B:World}(h:Below n₀ A B){sv:Value}{zs:List Int}:ZfF n₀ A sv zs->ZfF n₀ B sv zs
 | .inl e=> .inl e
 | .inr ⟨b,off,cap,e,hb,hc⟩=> .inr ⟨b,off,cap,e,hb,λ j hj=>(h.cell (p:=⟨b,off+j,none⟩) hb).trans (hc j hj)⟩
set_option maxRecDepth 100000 in
theorem ZzO (F:Fence)(n:Nat)(h7:F.fn 220)(hro:F.round=none)(hn:1<=n)(l Bs ob n₀ b off len cap:Nat)(zs:List Int)(hreach:len*8<=140737488351232)(hb:b<n₀)(J Jx:List Int->World->Prop)
  (hY:∀pre x W,J pre W->pre.length<len->YieldAt F (n-1) Tryz.prog l #[.int .i64 x] W λ e W'=>
   (e= .returned (.bool true)/\J (pre++[x]) W'/\Below n₀ W W')\/(e= .returned (.bool false)/\Jx (pre++[x]) W'))
  (W:World)(hBs:W.cell? ⟨Bs,ob,none⟩=some (.slice (some ⟨b,off,none⟩) len cap))(hc:∀j,j<len->W.cell? ⟨b,off+j,none⟩=some (.int .i64 (zs[j]?.getD 0)))(h0:J [] W):
  CallsIn F n Tryz.prog 220 #[.func (.yield l) #[] #[], .pointer (some ⟨Bs,ob,none⟩)] W λ e W'=>(∃v,e= .returned v)/\
   ((∃ys,ys=Zdd (λ j=>zs[j]?.getD 0) len/\J ys W')\/(∃pre,(∃k,k<=len/\pre=Zdd (λ j=>zs[j]?.getD 0) k)/\Jx pre W')):=by
 refine callsIn_of_wp Tryz.func220 rfl h7 ?_ hro;simp only[Tryz.ntmps220,kA,uV,uY,Nat.reduceAdd,Nat.reduceSub,zM,zN,Ad,kV,gF,jM]
 gi_wp2
 gi_loopw [7] (λ i wr=>∃k:Nat,k<=len/\i= .int .i64 k/\J (Zdd (λ j=>zs[j]?.getD 0) k) wr/\Below n₀ W wr)
  (λ i _=>len-(intOf i).toNat)
 case atStart=>exact⟨0,uJ _,rfl,h0,Below.refl _ _⟩
 case round=>
  obtain⟨k,hk,rfl,hJs,hnx⟩:=hrel;have hcx:k<len->wr.cell? ⟨b,off+k,none⟩=some (.int .i64 (zs[k]?.getD 0)):=λ h=>(hnx.cell (p:=⟨b,off+k,none⟩) hb).trans (hc k h)
  by_cases hlt:k<len
  ·obtain⟨fn,tmps,assign,body,hy,hR⟩:=hY _ (zs[k]?.getD 0) wr hJs (by rw[ZzK];exact hlt);have hcx':=hcx hlt
   gi_wp2
   refine hR.mono ?_;rintro e W3 (⟨rfl,hJ3,hk3⟩|⟨rfl,hJx3⟩)
   ·gi_wp2
    go_roundw
    case rel=>exact⟨k+1,by omega,by simp,by rw[Zrk];exact hJ3,hnx.trans hk3⟩
    case measure=>simp[intOf];omega
   ·gi_wp2
    refine bodyPost_ret (results_none rfl _ _ _) rfl ?_;exact⟨⟨_,rfl⟩, .inr ⟨_,⟨k+1,by omega,(Zrk _ _).symm⟩,hJx3⟩⟩
  ·obtain rfl:k=len:=by omega
   gi_wp2
   go_end0
   exact⟨⟨_,rfl⟩, .inl ⟨_,rfl,hJs⟩⟩
set_option maxRecDepth 100000 in
theorem ZzP (F:Fence)(n:Nat)(h7:F.fn 220)(hro:F.round=none)(l Bs ob cap:Nat)(a:Option Addr)(J:List Int->World->Prop)(W:World)(hBs:W.cell? ⟨Bs,ob,none⟩=some (.slice a 0 cap))(h0:J [] W):
  CallsIn F n Tryz.prog 220 #[.func (.yield l) #[] #[], .pointer (some ⟨Bs,ob,none⟩)] W λ e W'=>(∃v,e= .returned v)/\J [] W':=by
 refine callsIn_of_wp Tryz.func220 rfl h7 ?_ hro;simp only[Tryz.ntmps220,kA,uV,uY,Nat.reduceAdd,Nat.reduceSub,zM,zN,Ad,kV,gF,jM]
 gi_wp2
 gi_loopw [7] (λ i wr=>i= .int .i64 0/\J [] wr) (λ _ _=>0)
 case atStart=>exact⟨rfl,h0⟩
 case round=>
  obtain⟨rfl,hJs⟩:=hrel
  gi_wp2
  go_end0
  exact⟨⟨_,rfl⟩,hJs⟩
theorem ZzQ (F:Fence)(n:Nat)(h7:F.fn 220)(hro:F.round=none)(hn:1<=n)(Bs ob n₀:Nat)(sv:Value)(zs:List Int)(hreach:zs.length*8<=140737488351232)(w:World)(hBs:Bs<w.heap.size)(hn₀:n₀<=w.heap.size)
  (hc:w.cell? ⟨Bs,ob,none⟩=some sv)(hI:ZfF n₀ w sv zs):
  SeqStopsK F n Tryz.prog 220 #[.pointer (some ⟨Bs,ob,none⟩)] (λ x:Int=>#[Value.int .i64 x]) (Below n₀) (λ ys=>ys=zs) (λ pre=>pre<+:zs) zs.length w:=λ l J Jx W hW _ _ hY h0=>by
 have hc':=(hW.cell (p:=⟨Bs,ob,none⟩) hBs).trans hc;rcases hI.below (hW.mono hn₀)with⟨a,cap,rfl,rfl⟩|⟨b,off,cap,rfl,hb,hcs⟩
 ·exact(ZzP F n h7 hro l Bs ob cap a J W hc' h0).mono λ e W' ⟨he,hj⟩=>⟨he, .inl ⟨_,rfl,hj⟩⟩
 ·refine(ZzO F n h7 hro hn l Bs ob n₀ b off zs.length cap zs hreach hb J Jx hY W hc' hcs h0).mono ?_;rintro e W' ⟨he,⟨ys,rfl,hj⟩|⟨pre,⟨k,hk,rfl⟩,hj⟩⟩
  ·exact⟨he, .inl ⟨_,ZzJ zs,hj⟩⟩
  ·exact⟨he, .inr ⟨_,by rw[ZzL zs hk];exact List.take_prefix _ _,hj⟩⟩
theorem Zus :(Tryz.prog.info? 3).map (λ i=>(i.zero,i.size,i.bytes))=some (some (.int .i64 0),1,8):=by kernel_rfl
set_option maxRecDepth 100000 in
theorem Zr4 (F:Fence)(n:Nat)(h3:F.fn 248)(h5:F.fn 220)(hro:F.round=none)(hn:3<=n)(Bs ob:Nat)(sv:Value)(zs:List Int)(hlen:zs.length<=maxLen)(hbytes:zs.length*8<=140737488351232)(w:World)
  (hBs:Bs<w.heap.size)(hc:w.cell? ⟨Bs,ob,none⟩=some sv)(hI:ZfF w.heap.size w sv zs):
  CallsIn F n Tryz.prog 248 #[.slice none 0 0, .func (.func 220) #[] #[.pointer (some ⟨Bs,ob,none⟩)]] w λ e W'=>∃v,e= .returned v/\W'.ownsRow w.heap.size 3 1 v zs.length (zs.map (Value.int .i64))/\(v= .slice none 0 0↔zs=[])/\Below w.heap.size w W':=by
 have h1:1<=n:=by omega
 obtain⟨i0,hi,hz0,hz1,hz2⟩:=info_parts Zus;refine callsIn_of_wp_marks Tryz.func248 rfl h3 ?_ hro;simp only[Tryz.ntmps248,kA,uV,uY,Nat.reduceAdd,Nat.reduceSub,zM,zN,Ad,kV,gF,jM]
 gi_wp2
 have bO:=Boxed.new w 38 (.slice none 0 0);have hB0:Below w.heap.size w (w.alloc (.cells #[.slice none 0 0] 38)):=(Below.refl _ w).alloc (uH _) _;refine wpIn_rangeFunc_ownG hro h1 (gf:=220) (lb:=#[.pointer (some ⟨Bs,ob,none⟩)]) rfl h5 (enters_of Tryz.func220 (by kernel_rfl) rfl)
  (ZzQ F (n-1) h5 hro (by omega) Bs ob w.heap.size sv zs hbytes _ (by simp;omega) (by simp) ((hB0.cell (p:=⟨Bs,ob,none⟩) hBs).trans hc) (hI.below hB0)) belowK_t (belowK_b (by simp)) (Below.refl _ _) (λ _=>rfl)
  (λ pre W=>(∃v,Boxed W w.heap.size 38 v/\W.ownsRow w.heap.size 3 1 v pre.length (pre.map (Value.int .i64))/\(v= .slice none 0 0↔pre=[]))/\Below w.heap.size w W)
  (λ _ _ _=>False)
  (OwnFrom.and (Own.from (holdsRow_own w.heap.size w.heap.size 38 3 1 (λ pre=>pre.length) (λ pre=>pre.map (Value.int .i64)) (λ pre v=>v= .slice none 0 0↔pre=[])) _) (ownFrom_below (uH _) (by simp)))
  (λ _ _ _ _ _ hs _ _=>hs)
  ⟨⟨_,bO,World.ownsRow_nil _ _ _ _,by simp⟩,hB0⟩
  (λ x=>{tmps:=#[.slice none 0 0, .func (.func 220) #[] #[.pointer (some ⟨Bs,ob,none⟩)], .pointer (some ⟨w.heap.size,0,none⟩),undef, .slice none 0 0, .int .i64 x, .func (.func 220) #[] #[.pointer (some ⟨Bs,ob,none⟩)], .int .i64 x,undef,undef,undef,undef,undef],defers:=[]}) ?assign ?body ?done ?stop
 case assign=>
  intro l x W K hK
  gi_wp2
  exact hK
 case body=>
  rintro l pre x W ⟨⟨v,hv,hrow,hnil⟩,hB⟩ hlt;have hc:=hv.cell
  gi_wp2_with (gi_at_builtin;refine wpListIn_append_own _ rfl _ _ 38 rfl w.heap.size 3 i0 (.int .i64 0) 1 8 Tryz.underlying38 hi hz0 hz1 hz2 rfl (by decide) _ _ _ rfl (hrow.alloc _) ⟨W.heap.size,0,none⟩ 1 1 [.int .i64 x] rfl rfl (cell_one_new _ _ _) (by simp[Value.oneCell']) (by omega) (by omega) (by have:=hB.size;simp;omega) ?_;intro v' w1 hown' hgrow _;obtain⟨g',cap',rfl⟩:=ownsRow_succ hown';obtain⟨hv1,hv2,hr2,hk2,hb2⟩:=hv.appended (by decide) hrow hB.size (uH _) hown' hgrow;have hc1:=hv1.cell;have hf1:=hv1.frozen)
  exact⟨hk2.from _,hb2,⟨_,hv2,by simpa using hr2,by simp⟩,hB.trans hb2⟩
 case done=>
  rintro D ys W hD rfl ⟨⟨v,hv,hrow,hnil⟩,hB⟩ hK;have hc:=hv.cell
  gi_wp2
  refine⟨by simp, .inl ⟨_,_,rfl,run_takeDeferred hK,?_⟩⟩;exact⟨_,results_tmp rfl _ _ _,v,rfl,ownsRow_putObj hrow _ hK rfl,hnil,hB.trans (belowK_b (w:=w) (uH _) W D _ _ (by simp at hD;omega) hK rfl rfl)⟩
 case stop=>
  rintro D c pre W _ _ h _;exact h.elim
end Go.Proofs.YtjjbhjnpeenbkaaGreatDoor
namespace Go.Proofs.YtjjbhjnpeenbkaaGreatDoor
open Go Go.Proofs Go.RowKit Go.Shelf Go.Sort
attribute [local go_sem] Oper.semAt_some
set_option maxRecDepth 100000 in
theorem Ztg (n:Nat)(hn:4<=n)(Bs ob:Nat)(sv:Value)(zs:List Int)(hlen:zs.length<=maxLen)(hbytes:zs.length*8<=140737488351232)(w:World)
  (hBs:Bs<w.heap.size)(hc:w.cell? ⟨Bs,ob,none⟩=some sv)(hI:ZfF w.heap.size w sv zs):
  CallsIn Fence.wide n Tryz.prog 218 #[.func (.func 220) #[] #[.pointer (some ⟨Bs,ob,none⟩)]] w λ e W'=>∃v,e= .returned v/\W'.ownsRow w.heap.size 3 1 v zs.length (zs.map (Value.int .i64))/\(v= .slice none 0 0↔zs=[])/\Below w.heap.size w W':=by
 have h1:1<=n:=by omega
 have hF:Fence.wide.fn 248:=trivial;refine callsIn_of_wp Tryz.func218 rfl trivial ?_ rfl;simp only[Tryz.ntmps218,kA,uV,uY,Nat.reduceAdd,Nat.reduceSub,zM,zN,Ad,kV,gF,jM]
 gi_wp2_with (gi_at_call 248;refine(Zr4 Fence.wide (n-1) trivial trivial rfl (by omega) Bs ob sv zs hlen hbytes w hBs hc hI).mono ?_;rintro e w' ⟨v,rfl,hrow,hnil,hb⟩)
 go_ret
 exact⟨v,rfl,hrow,hnil,hb⟩
set_option maxRecDepth 100000 in
theorem ZyL (n:Nat)(hn:5<=n)(Bs ob:Nat)(sv:Value)(zs:List Int)(hlen:zs.length<=maxLen)(hbytes:zs.length*8<=140737488351232)(w:World)
  (hBs:Bs<w.heap.size)(hc:w.cell? ⟨Bs,ob,none⟩=some sv)(hI:ZfF w.heap.size w sv zs):
  CallsIn Fence.wide n Tryz.prog 175 #[.func (.func 220) #[] #[.pointer (some ⟨Bs,ob,none⟩)]] w λ e W'=>∃v,e= .returned v/\W'.ownsRow w.heap.size 3 1 v zs.length ((ZaF zs).map (Value.int .i64))/\Below w.heap.size w W':=by
 have h1:1<=n:=by omega
 have hF1:Fence.wide.fn 218:=trivial;have hF2:Fence.wide.fn 219:=trivial;refine callsIn_of_wp Tryz.func175 rfl trivial ?_ rfl;simp only[Tryz.ntmps175,kA,uV,uY,Nat.reduceAdd,Nat.reduceSub,zM,zN,Ad,kV,gF,jM]
 gi_wp2_with (gi_at_call 218;refine(Ztg (n-1) (by omega) Bs ob sv zs hlen hbytes w hBs hc hI).mono ?_;rintro e W ⟨v,rfl,hrow,hnil,hb⟩)
 rcases hrow.2 with⟨rfl,hz⟩|⟨gb,cap,cur,rfl,hbase,hgb,r1,r2,r3,r4⟩
 ·have hss:zs=[]:=qF hz;subst hss
  gi_wp2_with (gi_at_call 219;refine(callsIn_wide.2 (Any.slices_Sort_int_none Tryz.laysSort none 0 W)).mono ?_;rintro e w' ⟨rfl,rfl⟩)
  go_ret
  exact⟨.slice none 0 0,rfl,by simpa[ZaF]using hrow,hb⟩
 ·have hH:Holds (Value.int .i64) W gb 0 zs.toArray:=holds_of_blockI hgb (by simpa using r4);have hgl:gb<W.heap.size:=(qX.1 hgb).1;have hsz:zs.length<4611686018427387904:=by omega
  have cS:=Any.slices_Sort_int Tryz.laysSort gb 0 cap zs W hH hgl hsz
  gi_wp2_with (gi_at_call 219;refine(callsIn_wide.2 cS).mono ?_;rintro e w' ⟨rfl,nn,os,rfl⟩)
  go_ret
  exact⟨_,rfl,ownsRow_sortedI (by simp) hbase hgb r1 r2 r3,hb.grown (grownBy_sortedI _) hb.size (λ j hj=>by cases hj;exact hbase)⟩
end Go.Proofs.YtjjbhjnpeenbkaaGreatDoor
namespace Go.Proofs.YtjjbhjnpeenbkaaGreatDoor
open Go Go.PS Go.Proofs
set_option maxRecDepth 100000
theorem ZuF {w:World}{X:Nat->Prop}{l:List Int}{v:Value}(h:D.At w X (Zac l) v):ZfF w.heap.size w v l:=by
 generalize hd:Zac l=d at h;cases h with
 |sc=>cases hd
 |ag=>cases hd
 |tup=>cases hd
 |pt=>cases hd
 |fn=>cases hd
 |slnil base cap=>
  simp only[Zac,D.sl.injEq,List.map_eq_nil_iff]at hd;exact .inl ⟨base,cap,rfl,hd⟩
 |sl L b off cap sz hl hc hsz vals hv hat=>
  simp only[Zac,D.sl.injEq]at hd;subst hd;rcases qT l.length with h0|h0
  ·have:l=[]:=jX.1 h0;subst this;exact .inl ⟨_,cap,rfl,rfl⟩
  ·have hs1:sz=1:=by
    have:=hsz (D.int l[0]) (uN.2 ⟨l[0],jN h0,rfl⟩);simpa[D.cells]using this.symm
   subst hs1;have key:∀j,j<l.length->w.cell? ⟨b,off+j,none⟩=some (.int .i64 (l[j]?.getD 0)):=by
    intro j hj;have hi:(l.map D.int)[j]? =some (D.int l[j]):=by rw[uI,uL hj];rfl
    have h1:=hv j _ 0 (D.int l[j]) hi rfl;have h2:=hat j _ 0 (D.int l[j]) hi rfl;rw[jQ,gH]at h1;generalize vals j 0=x at h1 h2;cases h2;rw[h1.1,uL hj];rfl
   refine .inr ⟨b,off,cap,by rw[uE],?_,key⟩;have:=key 0 h0;rw[gH]at this;exact ZhZ this
theorem Zkw (l:List Int)(hl:l.length*8<=140737488351232):Zaa Tryz.prog 175 [.fn 220 [.pt [Zac l]]] (Zac (ZaF l)):=by
 refine⟨⟨_,Tryz.func175,rfl,by decide+kernel⟩,λ w X vs hX hat _=>?_⟩;obtain⟨hsz,hat⟩:=hat;obtain⟨v,rfl⟩:∃v,vs=#[v]:=by
  have:vs.size=1:=hsz;refine⟨vs[0],Array.ext (by simp[this]) λ i h1 h2=>?_⟩;have:i=0:=by simp at h2;omega
  subst this;rfl
 have hv:=hat 0 _ v rfl rfl;cases hv with
 |fn _ _ arr hasz harr=>
  obtain⟨x,rfl⟩:∃x,arr=#[x]:=by
   have:arr.size=1:=hasz;refine⟨arr[0],Array.ext (by simp[this]) λ i h1 h2=>?_⟩;have:i=0:=by simp at h2;omega
   subst this;rfl
  have hx:=harr 0 _ x rfl rfl;cases hx with
  |pt _ b off vals hpv hpat=>
   have h1:=hpv 0 _ rfl;have h2:=hpat 0 _ rfl;rw[gH]at h1;have hI:=ZuF h2;refine(callsIn_wide.1 (ZyL 5 (by omega) b off (vals 0) l (by simp only[maxLen];omega) (by omega) w (ZhZ h1.1) h1.1 hI)).mono ?_;rintro e w' ⟨v,rfl,hrow,hb⟩;refine⟨v,rfl,?_,hb⟩;obtain⟨hlen,hrow⟩:=hrow;rcases hrow with⟨rfl,hz⟩|⟨g,cap,cur,rfl,hbase,hgb,r1,r2,r3,r4⟩
   ·have hss:l=[]:=qF hz;subst hss;rw[show Zac (ZaF [])= .sl [] by simp[ZaF]];exact .slnil _ _
   ·have hcell:∀i z,(ZaF l)[i]? =some z->w'.cell? ⟨g,i,none⟩=some (.int .i64 z):=by
     intro i z hz;have hil:=(uB.1 hz).1;rw[ZqS]at hil;have h3:=qW (λ t:List Value=>t[i]?) r4;simp only[uI,hz,yV]at h3;rw[An (by omega),qM]at h3;rw[ZcB hgb];exact h3
    have hlen2:(intsL (ZaF l)).length=l.length:=by rw[uE,ZqS]
    rw[<-hlen2];refine .sl _ g 0 cap 1 (by rw[hlen2];exact r1) r2 (λ d hd=>by obtain⟨z,_,rfl⟩:=uN.1 hd;rfl) (λ i _=> .int .i64 (((ZaF l)[i]?).getD 0)) (λ i d j c hi hj=>?_) (λ i d j c hi hj=>?_)
    ·rw[uI]at hi;cases hz:(ZaF l)[i]? with
     |none=>rw[hz]at hi;cases hi
     |some z=>
      rw[hz]at hi;simp only[yV,uZ]at hi;subst hi;cases j with
      |succ j=>simp[D.cells]at hj
      |zero=>exact⟨by rw[jQ,gH,qO];exact hcell i z hz,rfl,λ hx=>by have:=hX g hx;omega⟩
    ·rw[uI]at hi;cases hz:(ZaF l)[i]? with
     |none=>rw[hz]at hi;cases hi
     |some z=>
      rw[hz]at hi;simp only[yV,uZ]at hi;subst hi;cases j with
      |succ j=>simp[D.cells]at hj
      |zero=>
       simp only[D.cells,As,uZ]at hj;subst hj;exact .sc _ rfl
theorem Zkx (l:List Int):Zaa Tryz.prog 176 [Zac l] (.fn 220 [.pt [Zac l]]):=by
 refine kE Tryz.func176 ?_;intro hat B X w0;refine kw1 kO kc0 kc0 ?_;rfl
end Go.Proofs.YtjjbhjnpeenbkaaGreatDoor
namespace Go.Proofs.YtjjbhjnpeenbkaaGreatDoor
open Go Go.PS Go.Proofs
set_option maxRecDepth 100000
attribute [local irreducible] Zab wpG Zaa Zaf
def at0 (r:List Int)(v:Int):Int:=(r[v.toNat]?).getD 0
theorem Zen {r:List Int}{v:Int}(h1:0<=v)(h2:v<r.length):r[v.toNat]? =some (at0 r v):=by
 obtain⟨x,hx⟩:=Zad (show v.toNat<r.length by omega);rw[at0,hx];rfl
theorem ZaS {r:List Int}{i:Nat}(h:i<r.length):r[i]? =some (at0 r i):=by
 obtain⟨x,hx⟩:=Zad h;rw[at0,uQ,hx];rfl
def Zch (l:List Int):Nat->Int
 |0=>at0 l 0
 |k+1=>max (Zch l k) (at0 l ((k+1:Nat):Int))
theorem Zht (l:List Int):∀(k j:Nat),j<=k->at0 l j<=Zch l k
 |0,j,h=>by rw[show j=0 by omega];exact gC _
 |k+1,j,h=>by
  rw[Zch];rcases uF j (k+1)with h1|h1
  ·have:=Zht l k j (by omega);omega
  ·rw[show j=k+1 by omega];omega
theorem ZjK {l:List Int}{m:Int}(h:∀j:Nat,at0 l j<=m):∀k,Zch l k<=m
 |0=>h 0
 |k+1=>by rw[Zch];have:=ZjK h k;have:=h (k+1);omega
theorem ZjC (a b:Int):(if a<b then b else a)=max a b:=by omega
theorem ZrD (l:List Int)(hl:0<l.length):Zaa Tryz.prog 102 [Zac l] (.int (Zch l (l.length-1))):=by
 refine kE Tryz.func102 ?_;intro hat B X w0;have hll:=Zbb 0 hat rfl;rw[uE]at hll;have g0:=ZaS hl;refine kw1 kO (kc1 g0) kc0 ?_;refine Zai (λ(k:Nat)=>k+1<=l.length) (λ k=>[(0, .d (Zac l)),(3, .int (Zch l k)),(4, .int ((k:Int)+1))]) (λ k=>[]) (λ k=>l.length-k) 0 ?_ ?_ ?_
 ·omega
 ·exact kN (kc1 @Zch.eq_1) []
 ·intro k hk;rcases uF (k+1) l.length with hlt|hge
  ·have gk:=ZaS hlt;have e:(((k:Int)+1)).toNat=k+1:=by omega
   refine kw1 kO (kc3 gk e @ZjC) kc0 ?_;refine⟨k+1,?_,kN (kc3 @Zch.eq_1 @qI @gP) [],?_⟩
   ·omega
   ·omega
  ·refine kw1 kO kc0 kc0 ?_;have:l.length-1=k:=by omega
   rw[this];rfl
abbrev Lv :=Int×List (List Int)×List Arc×List (List Int)
abbrev lvD (v:Lv):D:= .ag [.int v.1,Zae v.2.1,Zak v.2.2.1,Zae v.2.2.2]
def lv0 :Lv:=(0,[],[],[])
def ZaT (all:List Int)(k:Nat):List Int:=((List.range all.length).filter λ v=>decide (all[v]? =some (k:Int))).map λ v:Nat=>(v:Int)
theorem ZlC (all:List Int)(x:Int)(k:Nat):ZaT (all++[x]) k=if x=k then ZaT all k++[(all.length:Int)]else ZaT all k:=by
 rw[ZaT,uC,qN,gG,gX,yB];have e:(List.range all.length).filter (λ v=>decide ((all++[x])[v]? =some (k:Int)))=(List.range all.length).filter λ v=>decide (all[v]? =some (k:Int)):=by
  refine List.filter_congr λ v hv=>?_
  rw[qH (yD.1 hv)]
 rw[e];by_cases h:x=k
 ·rw[if_pos h];simp[ZaT,h]
 ·rw[if_neg h];simp[ZaT,h]
theorem ZlB (all:List Int)(k:Nat):(ZaT all k).length<=all.length:=by
 rw[ZaT,uE];exact gR (jS _ _) (by simp)
def ZaC (r:List Int)(a:Arc):Nat:=(at0 r a.2-at0 r a.1-1).toNat
def Zal (r:List Int)(a:Arc)(i:Nat):List Int:=(List.range i).map λ j:Nat=>at0 r a.1+1+j
theorem Zpw (r:List Int)(a:Arc)(i:Nat):Zal r a (i+1)=Zal r a i++[at0 r a.1+1+i]:=by simp[Zal,gG]
theorem ZfV (r:List Int)(a:Arc)(i:Nat):(Zal r a i).length=i:=by simp[Zal]
def Zaz (r:List Int)(l:List Arc)(e:Nat):List Int:=r++(l.take e).flatMap λ a=>Zal r a (ZaC r a)
theorem ZhV {r:List Int}{l:List Arc}{e:Nat}{a:Arc}(h:l[e]? =some a):Zaz r l (e+1)=Zaz r l e++Zal r a (ZaC r a):=by
 simp[Zaz,ZaD h]
def Zcc (n0:Nat)(a:Arc)(i:Nat):List Int:=a.1::(List.range i).map λ j:Nat=>((n0+j:Nat):Int)
theorem ZnS (n0:Nat)(a:Arc)(i:Nat):Zcc n0 a (i+1)=Zcc n0 a i++[((n0+i:Nat):Int)]:=by simp[Zcc,gG]
theorem ZgA (n0:Nat)(a:Arc)(i:Nat):(Zcc n0 a i).length=i+1:=by simp[Zcc]
def ZaA (r:List Int)(n0:Nat)(a:Arc):List Int:=Zcc n0 a (ZaC r a)++[a.2]
theorem ZkV (r:List Int)(n0:Nat)(a:Arc):(ZaA r n0 a).length=ZaC r a+2:=by simp[ZaA,ZgA]
def ZfZ (c:List Int)(j:Nat):Arc:=(at0 c j,at0 c ((j+1:Nat):Int))
def ZbB (c:List Int)(j:Nat):List Arc:=(List.range j).map (ZfZ c)
theorem ZpO (c:List Int)(j:Nat):ZbB c (j+1)=ZbB c j++[ZfZ c j]:=by simp[ZbB,gG]
theorem Zl0 (c:List Int)(j:Nat):(ZbB c j).length=j:=by simp[ZbB]
def Zh0 (r:List Int)(l:List Arc)(e:Nat):List (List Int):=match l[e]? with
 |some a=>[ZaA r (Zaz r l e).length a]
 |none=>[]
def ZaW (r:List Int)(l:List Arc)(e:Nat):List (List Int):=Zbm (Zh0 r l) e
def ZhX (r:List Int)(l:List Arc)(e:Nat):List Arc:=match l[e]? with
 |some a=>ZbB (ZaA r (Zaz r l e).length a) (ZaC r a+1)
 |none=>[]
def ZaO (r:List Int)(l:List Arc)(e:Nat):List Arc:=Zbm (ZhX r l) e
def Zea (g:Gr)(r:List Int):Lv:=
 (g.1,if g.1=0 then[]else(List.range (Zch r (r.length-1)+1).toNat).map λ k=>ZaT (Zaz r g.2 g.2.length) k,ZaO r g.2 g.2.length,ZaW r g.2 g.2.length)
def ZaV (r:List Int)(l:List Arc):Nat->Int
 |0=>0
 |k+1=>ZaV r l k+match l[k]? with|some a=>at0 r a.2-at0 r a.1-1|none=>0
def Zcn (r:List Int)(a:Arc):Bool:=decide (at0 r a.2-at0 r a.1-1<0)
def Zdr (g:Gr)(r:List Int):Bool:=gOk g&&decide ((r.length:Int)=g.1)&& !r.any ZcF
def ZaH (g:Gr)(r:List Int):Lv×Int:=
 if Zdr g r=false then(lv0,1)else if g.2.any Zc7 then(lv0,8)else if g.2.any (Zcn r)then(lv0,3)
 else if 512<g.1+ZaV r g.2 g.2.length then(lv0,2)else(Zea g r,0)
theorem ZjZ {g:Gr}{r:List Int}(h:Zdr g r=true):gOk g=true/\(r.length:Int)=g.1/\r.any ZcF=false/\∀v:Nat,0<=at0 r v/\at0 r v<=255:=by
 simp only[Zdr,uO,uG,yK]at h;obtain⟨⟨h1,h2⟩,h3⟩:=h;refine⟨h1,h2,h3,λ v=>?_⟩;rw[at0];cases hx:r[((v:Nat):Int).toNat]? with
 |none=>simp
 |some x=>
  simp only[qU]at h3;have:=h3 x (uA hx);simp only[ZcF,uG]at this;dsimp only[Option.getD_some];omega
theorem Zrv (g:Gr)(r:List Int)(h:Zdr g r=false):Zaa Tryz.prog 49 [gD g,Zac r] (.tup [lvD lv0, .int 1]):=by
 have hv:=Ze7 g;have hc:=Zjr r 99 ZcF Zl9;rcases h1:gOk g with _|_<;>rw[h1]at hv
 ·refine kE Tryz.func49 ?_;intro hat B X w0;refine kw1 kO kc0 (kc1 hv) ?_
  all_goals
   refine⟨_,rfl,⟨_,_,_,_,rfl,?_⟩,Zah ?_,trivial⟩
   ·simp(disch:=omega) only[go_sem,simprocAttr,toD];rfl
   ·rfl
 ·by_cases h2:(r.length:Int)=g.1
  ·have h3:r.any ZcF=true:=by simpa[Zdr,h1,h2]using h
   rw[h3]at hc;refine kE Tryz.func49 ?_;intro hat B X w0;have hl:=Zbb 1 hat rfl;rw[uE]at hl;refine kw1 kO (kc1 h2) (kc2 hv hc) ?_
   all_goals
    refine⟨_,rfl,⟨_,_,_,_,rfl,?_⟩,Zah ?_,trivial⟩
    ·simp(disch:=omega) only[go_sem,simprocAttr,toD];rfl
    ·rfl
  ·refine kE Tryz.func49 ?_;intro hat B X w0;have hl:=Zbb 1 hat rfl;rw[uE]at hl;refine kw1 kO (kc1 h2) (kc2 hv hc) ?_
   all_goals
    refine⟨_,rfl,⟨_,_,_,_,rfl,?_⟩,Zah ?_,trivial⟩
    ·simp(disch:=omega) only[go_sem,simprocAttr,toD];rfl
    ·rfl
theorem Zrw (g:Gr)(r:List Int)(h:Zdr g r=true)(h4:g.2.any Zc7=true):Zaa Tryz.prog 49 [gD g,Zac r] (.tup [lvD lv0, .int 8]):=by
 have hv:=Ze7 g;have hc:=Zjr r 99 ZcF Zl9;have hd:=ZnY g.2 101 Zc7 Zpb;obtain⟨h1,h2,h3,h5⟩:=ZjZ h;rw[h1]at hv;rw[h3]at hc;rw[h4]at hd;refine kE Tryz.func49 ?_;intro hat B X w0;have hl:=Zbb 1 hat rfl;rw[uE]at hl;refine kw1 kO (kc1 h2) (kc3 hv hc hd) ?_
 all_goals
  refine⟨_,rfl,⟨_,_,_,_,rfl,?_⟩,Zah ?_,trivial⟩
  ·simp(disch:=omega) only[go_sem,simprocAttr,toD];rfl
  ·rfl
theorem ZmA {r:List Int}{l:List Arc}(h5:∀v:Nat,0<=at0 r v/\at0 r v<=255)(hin:∀(k:Nat) a,l[k]? =some a->0<=a.1/\0<=a.2):∀k:Nat,-(256*(k:Int))<=ZaV r l k/\ZaV r l k<=256*(k:Int)
 |0=>by simp[ZaV]
 |k+1=>by
  have ih:=ZmA h5 hin k;cases ha:l[k]? with
  |none=>simp only[ZaV,ha];omega
  |some a=>
   have h1:=hin k a ha;have e1:=h5 a.1.toNat;have e2:=h5 a.2.toNat;rw[show((a.1.toNat:Nat):Int)=a.1 by omega]at e1;rw[show((a.2.toNat:Nat):Int)=a.2 by omega]at e2;have e:ZaV r l (k+1)=ZaV r l k+(at0 r a.2-at0 r a.1-1):=by rw[ZaV,ha]
   rw[e];generalize at0 r a.2=x at*;generalize at0 r a.1=y at*;omega
theorem Zja {r:List Int}{l:List Arc}(hgap:∀(k:Nat) a,l[k]? =some a->0<=at0 r a.2-at0 r a.1-1):∀e,e<=l.length->((Zaz r l e).length:Int)=r.length+ZaV r l e:=by
 intro e
 induction e with
 |zero=>intro _;simp[Zaz,ZaV]
 |succ e ih=>
  intro he;obtain⟨a,ha⟩:=Zad (show e<l.length by omega);have h1:=hgap e a ha;have e1:ZaV r l (e+1)=ZaV r l e+(at0 r a.2-at0 r a.1-1):=by rw[ZaV,ha]
  rw[ZhV ha,uC,ZfV,e1,ZaC];have:=ih (by omega);omega
theorem Zq1 {r:List Int}{l:List Arc}(hgap:∀(k:Nat) a,l[k]? =some a->0<=at0 r a.2-at0 r a.1-1):∀(m e:Nat),e<=m->ZaV r l e<=ZaV r l m:=by
 intro m
 induction m with
 |zero=>intro e he;rw[show e=0 by omega];exact gC _
 |succ m ih=>
  intro e he;rcases uF e (m+1)with h|h
  ·have:=ih e (by omega);cases ha:l[m]? with
   |none=>have e1:ZaV r l (m+1)=ZaV r l m+0:=by rw[ZaV,ha]
          omega
   |some a=>
    have e1:ZaV r l (m+1)=ZaV r l m+(at0 r a.2-at0 r a.1-1):=by rw[ZaV,ha]
    have:=hgap m a ha;omega
  ·rw[show e=m+1 by omega];exact gC _
theorem Zje {r:List Int}{l:List Arc}(hgap:∀(k:Nat) a,l[k]? =some a->0<=at0 r a.2-at0 r a.1-1):∀e,e<=l.length->(ZaO r l e).length+r.length=(Zaz r l e).length+e:=by
 intro e
 induction e with
 |zero=>intro _;simp[ZaO,Zbm,Zaz]
 |succ e ih=>
  intro he;obtain⟨a,ha⟩:=Zad (show e<l.length by omega);have:=ih (by omega);simp only[ZaO,Zbm,uC]at this|-;rw[ZhV ha,uC,ZfV,ZhX,ha];dsimp only;rw[Zl0];omega
theorem Zjp (r:List Int)(l:List Arc):∀e,e<=l.length->(ZaW r l e).length=e:=by
 intro e
 induction e with
 |zero=>intro _;simp[ZaW,Zbm]
 |succ e ih=>
  intro he;obtain⟨a,ha⟩:=Zad (show e<l.length by omega);have:=ih (by omega);simp only[ZaW,Zbm,uC]at this|-;rw[Zh0,ha];dsimp only[List.length_cons,List.length_nil];omega
theorem Zrx (g:Gr)(r:List Int)(h:Zdr g r=true)(h4:g.2.any Zc7=false):Zaa Tryz.prog 49 [gD g,Zac r] (.tup [lvD (ZaH g r).1, .int (ZaH g r).2]):=by
 have hv:=Ze7 g;have hc:=Zjr r 99 ZcF Zl9;have hd:=ZnY g.2 101 Zc7 Zpb;obtain⟨h1,h2,h3,h5⟩:=ZjZ h;have hbf:ZaH g r=if g.2.any (Zcn r)then(lv0,3)else if 512<g.1+ZaV r g.2 g.2.length then(lv0,2)else(Zea g r,0):=by
  rw[ZaH,h,h4];simp
 obtain⟨g1,g2,g3,g4⟩:=Zhl h1;rw[h1]at hv;rw[h3]at hc;rw[h4]at hd;obtain⟨m,l⟩:=g;dsimp only at g1 g2 g3 g4 h2 hd hbf;obtain⟨n,rfl⟩:∃n:Nat,m=n:=⟨m.toNat,by omega⟩;have hrn:r.length=n:=by omega
 have hsum:=ZmA (r:=r) (l:=l) h5 (λ k a ha=>by have:=g4 k a ha;omega);refine kE Tryz.func49 ?_;intro hat B X w0;refine kw1 kO (kc1 hrn) (kc3 hv hc hd) ?_;refine Zai (λ(k:Nat)=>k<=l.length/\∀(j:Nat) y,j<k->l[j]? =some y->Zcn r y=false) (λ k=>[(1, .d (Zac r)),(2, .ptr 2 0 0 0),(4, .ptr 4 0 0 0),(6, .int (n+ZaV r l k)),(41, .d (Zak l)),(42, .int l.length),(43, .int k)]) (λ k=>[(2, .cells [.int n, .d (Zak l)]),(4, .cells [.int 0, .nilS, .nilS, .nilS])]) (λ k=>l.length-k) 0 ?_ ?_ ?_
 ·exact⟨uJ _,λ j y h=>by omega⟩
 ·exact kN (kc2 @ZaV.eq_1 @jU) []
 ·rintro k ⟨hk,hinv⟩;have hsk:=hsum k;rcases uF k l.length with hlt|hge
  ·obtain⟨a,ha⟩:=Zad hlt;have hai:=g4 k a ha;have e1:=Zen (r:=r) (v:=a.1) hai.1 (by omega);have e2:=Zen (r:=r) (v:=a.2) hai.2.2.1 (by omega);have f1:=h5 a.1.toNat;have f2:=h5 a.2.toNat;rw[show((a.1.toNat:Nat):Int)=a.1 by omega]at f1;rw[show((a.2.toNat:Nat):Int)=a.2 by omega]at f2;have hss:ZaV r l (k+1)=ZaV r l k+(at0 r a.2-at0 r a.1-1):=by rw[ZaV,ha]
   rcases hup:Zcn r a with _|_
   ·rw[Zcn,qJ]at hup;refine kw1 kO (kc4 ha e1 e2 hrn) kc0 ?_;refine⟨k+1,?_,kN (kc2 hss @zA) [],?_⟩
    ·exact⟨by omega,ZbI hinv ha (by rw[Zcn,qJ];exact hup)⟩
    ·omega
   ·have hany:l.any (Zcn r)=true:=ZcZ ha hup;rw[Zcn,uG]at hup;rw[hbf,if_pos hany];refine kw1 kO (kc4 ha e1 e2 hrn) kc0 ?_;refine⟨_,rfl,⟨_,_,_,_,rfl,?_⟩,Zah ?_,trivial⟩
    ·simp(disch:=omega) only[go_sem,simprocAttr,toD];rfl
    ·rfl
  ·have:k=l.length:=by omega
   subst this;have hany:l.any (Zcn r)=false:=ZdB λ j y hj=>hinv j y (by omega)
   rw[hbf,if_neg (by rw[hany];decide)];by_cases hbig:512<(n:Int)+ZaV r l l.length
   ·rw[if_pos hbig];refine kw1 kO kc0 kc0 ?_;refine⟨_,rfl,⟨_,_,_,_,rfl,?_⟩,Zah ?_,trivial⟩
    ·simp(disch:=omega) only[go_sem,simprocAttr,toD];rfl
    ·rfl
   ·rw[if_neg hbig];have hgap:∀(k:Nat) a,l[k]? =some a->0<=at0 r a.2-at0 r a.1-1:=λ k a ha=>by
     have:=qU.1 hany a (uA ha);rw[Zcn,uG]at this;omega
    rcases qT n with hn0|hn0
    ·subst hn0;have hl0:l=[]:=by
      cases l with
      |nil=>rfl
      |cons a l=>have:=g4 0 a rfl;omega
     have hr0:r=[]:=jX.1 hrn;subst hl0 hr0;have hs0:ZaV [] [] 0=0:=rfl;refine kw1 kO (kc1 hs0) kc0 ?_;refine Zai (λ(i:Nat)=>True) (λ i=>[(1, .d (Zac [])),(2, .ptr 2 0 0 0),(4, .ptr 4 0 0 0),(10, .ptr 10 0 0 0),(80, .d (Zac [])),(81, .int 0),(82, .int i)]) (λ i=>[(2, .cells [.int 0, .d (Zak [])]),(4, .cells [.int 0, .nilS, .nilS, .nilS]),(10, .cells [.int 0, .nilS, .nilS, .nilS])]) (λ i=>0) 0 ?_ ?_ ?_
     ·trivial
     ·exact kN kc0 []
     ·intro i _;refine kw1 kO kc0 kc0 ?_;refine Zai (λ(e:Nat)=>True) (λ e=>[(1, .d (Zac [])),(2, .ptr 2 0 0 0),(4, .ptr 4 0 0 0),(10, .ptr 10 0 0 0),(13, .int 0),(103, .d (Zak [])),(104, .int 0),(105, .int e)]) (λ e=>[(2, .cells [.int 0, .d (Zak [])]),(4, .cells [.int 0, .nilS, .nilS, .nilS]),(10, .cells [.int 0, .nilS, .nilS, .nilS])]) (λ e=>0) 0 ?_ ?_ ?_
      ·trivial
      ·exact kN kc0 []
      ·intro e _;refine kw1 kO kc0 kc0 ?_;refine⟨_,rfl,⟨_,_,_,_,rfl,?_⟩,Zah ?_,trivial⟩
       ·simp(disch:=omega) only[go_sem,simprocAttr,toD];rfl
       ·rfl
    ·have hmx:=ZrD r (by omega);obtain⟨N,hN⟩:∃N:Nat,Zch r (r.length-1)=(N:Int)-1:=⟨(Zch r (r.length-1)+1).toNat,by have:=Zht r (r.length-1) 0 (by omega);have:=h5 0;omega⟩;have hNle:=ZjK (λ j=>(h5 j).2) (r.length-1);have hNge:=Zht r (r.length-1);have hN0:=hNge 0 (by omega);have h50:=h5 0;rw[hN]at hmx hNle hN0;have hrk:∀v:Nat,v<n->at0 r v<N:=λ v hv=>by have:=hNge v (by omega);omega
     have allR_len:∀e,e<=l.length->(Zaz r l e).length<=512:=λ e he=>by
      have h1:=Zja hgap e he;have h2:=Zq1 hgap l.length e he;omega
     refine kw1 kO (kc1 @Int.sub_add_cancel) (kc1 hmx) ?_;refine Zau _ (Zcr 10 2 901 2 rfl rfl rfl) ?_;refine Zau _ (Zcr 10 3 902 1 rfl rfl rfl) ?_;refine Zau _ (Zh6 1 78 1 N rfl (λ i hi=>by simp(disch:=omega) only[go_sem,simprocAttr,ZiA,ZdC]) (by decide) (by decide)) ?_;refine Zee (λ(i:Nat)=>i<=n) (λ i=>[(1, .d (Zac r)),(2, .ptr 2 0 0 0),(4, .ptr 4 0 0 0),(10, .ptr 10 0 0 0),(80, .d (Zac r)),(81, .int n),(82, .int i)]) (λ i=>[⟨1,78,1,N,λ k=>(ZaT (r.take i) k).map D.int⟩]) (λ i=>[(2, .cells [.int n, .d (Zak l)]),(4, .cells [.int 0, .nilS, .nilS, .nilS]),(10, .cells [.int n, .ref 78 1 0 N N, .ref 901 2 0 0 0, .ref 902 1 0 0 0]),(901, .row 2 []),(902, .row 1 [])]) (λ i=>n-i) 0 ?_ ?_ ?_
     ·exact uJ _
     ·refine kF (kc1 hrn) [] [] ?_;exact kT0 (kc3 @ZaT.eq_1 @kC @zK.{0})
     ·intro i hi;rcases uF i n with hin|hin
      ·have gi:=ZaS (r:=r) (i:=i) (by omega);have f1:=h5 i;have f2:=hrk i hin;obtain⟨p,hp⟩:∃p:Nat,at0 r i=p:=⟨(at0 r i).toNat,by omega⟩;have hpN:p<N:=by omega
       have hstep:∀k:Nat,ZaT (r.take (i+1)) k=if k=p then ZaT (r.take i) k++[(i:Int)]else ZaT (r.take i) k:=λ k=>by
        rw[ZaD gi,ZlC,hp,uS,jA (by omega)];by_cases c:k=p
        ·rw[if_pos (by omega),if_pos c]
        ·rw[if_neg (by omega),if_neg c]
       have hll:=ZlB (r.take i) p;rw[uS]at hll;rw[hp]at gi;refine Zau _ (ZeP _ _ [2,4,10,78,901,902] 78 p 900 1 1 N (by first|rfl|(simp(disch:=omega) only[go_sem,simprocAttr];done)|(simp(disch:=omega) only[go_sem,simprocAttr];rfl)) (by first|(simp(disch:=omega) only[go_sem,simprocAttr];done)|(simp(disch:=omega) only[go_sem,simprocAttr];rfl)) (by first|(simp(disch:=omega) only[go_sem,simprocAttr];done)|(simp(disch:=omega) only[go_sem,simprocAttr];rfl)) (λ i hi hne=>by simp(disch:=omega) only[go_sem,simprocAttr,hne];(repeat' split)<;>exact .ref _ _ _ _ _ ⟨by simp(disch:=omega) only[go_sem,simprocAttr,hne],by simp(disch:=omega) only[go_sem,simprocAttr,hne]⟩) (by(repeat' first|refine ZeG ?_|exact ZeH (ids:=[2,4,10,78,901,902]) rfl rfl (uU rfl)|refine ZeF ?_|refine ZeI ?_|refine ZeD ?_|refine ZeJ ?_|refine ZeK ?_|refine ZeE (by dsimp only;omega) (by dsimp only;omega) (by omega) (by omega) (uU rfl) ?_);done) rfl rfl rfl) ?_;refine kw1 kO (kc4 gi hrn @yI.{0} @Zat) kc0 ?_;refine⟨i+1,?_,kF kc0 [(fid 1 p,97)] [] ?_,?_⟩
       ·omega
       ·exact kT1 (kc7 @hstep @yB.{0,0} @uC.{0} @uE.{0,0} @uV.{0} @uY.{0} @Zat) p
       ·omega
      ·have:i=n:=by omega
       subst this;have hti:r.take i=Zaz r l 0:=by rw[uD (by omega)];simp[Zaz]
       try dsimp only
       rw[hti];refine kw1 kP kc0 kc0 ?_;refine Zee (λ(e:Nat)=>e<=l.length) (λ e=>[(1, .d (Zac r)),(2, .ptr 2 0 0 0),(4, .ptr 4 0 0 0),(10, .ptr 10 0 0 0),(13, .int (Zaz r l e).length),(103, .d (Zak l)),(104, .int l.length),(105, .int e)]) (λ e=>[⟨1,78,1,N,λ k=>(ZaT (Zaz r l e) k).map D.int⟩]) (λ e=>[(2, .cells [.int i, .d (Zak l)]),(4, .cells [.int 0, .nilS, .nilS, .nilS]),(10, .cells [.int i, .ref 78 1 0 N N, .ref 901 2 0 (ZaO r l e).length (ZaO r l e).length, .ref 902 1 0 (ZaW r l e).length (ZaW r l e).length]),(901, .row 2 ((ZaO r l e).map ZaY)),(902, .row 1 ((ZaW r l e).map Zac))]) (λ e=>l.length-e) 0 ?_ ?_ ?_
       ·exact uJ _
       ·refine kF (kc5 @Zaz.eq_1 @yY.{0} @Ai.{0,0} @yO.{0} hrn) [] [] ?_;exact kT0 kc0
       ·intro e he;rcases uF e l.length with hel|hel
        ·obtain⟨a,ha⟩:=Zad hel;have hai:=g4 e a ha;have hga:=hgap e a ha;have e1:=Zen (r:=r) (v:=a.1) hai.1 (by omega);have e2:=Zen (r:=r) (v:=a.2) hai.2.2.1 (by omega);have f1:=h5 a.1.toNat;have f2:=hrk a.2.toNat (by omega);rw[show((a.1.toNat:Nat):Int)=a.1 by omega]at f1;rw[show((a.2.toNat:Nat):Int)=a.2 by omega]at f2;have hgn:(ZaC r a:Int)=at0 r a.2-at0 r a.1-1:=by rw[ZaC];omega
         have hall:=ZhV (r:=r) ha;have hal:=allR_len e he;generalize hA:Zaz r l e=all at hal hall;refine kw1 (kow (Nat.beq 111) (b:=false)) (kc3 ha e1 hrn) kc0 ?_;refine Zee (λ(u:Nat)=>u<=ZaC r a) (λ u=>[(1, .d (Zac r)),(2, .ptr 2 0 0 0),(4, .ptr 4 0 0 0),(10, .ptr 10 0 0 0),(13, .int (all.length+u)),(15, .ptr 15 0 0 0),(16, .ref 903 1 0 (u+1) (u+1)),(17, .int (at0 r a.1+1+u)),(103, .d (Zak l)),(104, .int l.length),(105, .int e)]) (λ u=>[⟨1,78,1,N,λ k=>(ZaT (all++Zal r a u) k).map D.int⟩]) (λ u=>[(2, .cells [.int i, .d (Zak l)]),(4, .cells [.int 0, .nilS, .nilS, .nilS]),(15, .cells [.int a.1, .int a.2]),(10, .cells [.int i, .ref 78 1 0 N N, .ref 901 2 0 (ZaO r l e).length (ZaO r l e).length, .ref 902 1 0 (ZaW r l e).length (ZaW r l e).length]),(901, .row 2 ((ZaO r l e).map ZaY)),(902, .row 1 ((ZaW r l e).map Zac)),(903, .row 1 ((Zcc all.length a u).map D.int))]) (λ u=>ZaC r a-u) 0 ?_ ?_ ?_
         ·exact uJ _
         ·refine kF (kc5 @Zcc.eq_1 @Zal.eq_1 @kC @yO.{0} hA) [] [(903,111)] ?_;exact kT0 (kc4 @Zal.eq_1 @kC @yO.{0} hA)
         ·intro u hu;rcases uF u (ZaC r a)with hul|hul
          ·obtain⟨p,hp⟩:∃p:Nat,at0 r a.1+1+u=p:=⟨(at0 r a.1+1+u).toNat,by omega⟩;have hpN:p<N:=by omega
           have hlen:(all++Zal r a u).length=all.length+u:=by rw[uC,ZfV]
           have hstep:∀k:Nat,ZaT (all++Zal r a (u+1)) k=if k=p then ZaT (all++Zal r a u) k++[(all.length:Int)+u]else ZaT (all++Zal r a u) k:=λ k=>by
            rw[Zpw,<-yP,ZlC,hp,hlen,qI];by_cases c:k=p
            ·rw[if_pos (by omega),if_pos c]
            ·rw[if_neg (by omega),if_neg c]
           have hll:=ZlB (all++Zal r a u) p;have hcl:=ZgA all.length a u;have htk:((Zcc all.length a u).map D.int).take (u+1)=(Zcc all.length a u).map D.int:=uD (by rw[uE,hcl];exact uH _);have hcs:=ZnS all.length a u;refine Zau _ (ZeP _ _ [2,4,15,10,78,901,902,903] 78 p 900 1 1 N (by first|rfl|(simp(disch:=omega) only[go_sem,simprocAttr];done)|(simp(disch:=omega) only[go_sem,simprocAttr];rfl)) (by first|(simp(disch:=omega) only[go_sem,simprocAttr];done)|(simp(disch:=omega) only[go_sem,simprocAttr];rfl)) (by first|(simp(disch:=omega) only[go_sem,simprocAttr];done)|(simp(disch:=omega) only[go_sem,simprocAttr];rfl)) (λ i hi hne=>by simp(disch:=omega) only[go_sem,simprocAttr,hne];(repeat' split)<;>exact .ref _ _ _ _ _ ⟨by simp(disch:=omega) only[go_sem,simprocAttr,hne],by simp(disch:=omega) only[go_sem,simprocAttr,hne]⟩) (by(repeat' first|refine ZeG ?_|exact ZeH (ids:=[2,4,15,10,78,901,902,903]) rfl rfl (uU rfl)|refine ZeF ?_|refine ZeI ?_|refine ZeD ?_|refine ZeJ ?_|refine ZeK ?_|refine ZeE (by dsimp only;omega) (by dsimp only;omega) (by omega) (by omega) (uU rfl) ?_);done) rfl rfl rfl) ?_;refine kw1 kO (kc7 e2 hp hrn @yI.{0} @Zat hcl htk) kc0 ?_;refine⟨u+1,?_,eF [(fid 1 p,137)] [(903,142)] _ _ _ (by refine⟨?_,?_⟩<;>(repeat' first|exact fmn|refine fmc ⟨(by first|rfl|(simp(disch:=omega) only[go_sem,simprocAttr,inL,hcs,yB,qI,gP,<-zA,hp];first|done|omega|(congr 1;done))),?_⟩);done) ?_,?_⟩
           ·omega
           ·exact kT1 (kc7 @hstep @yB.{0,0} @uC.{0} @uE.{0,0} @uV.{0} @uY.{0} @Zat) p
           ·omega
          ·have:u=ZaC r a:=by omega
           subst this;have hcl:=ZgA all.length a (ZaC r a);have htk:((Zcc all.length a (ZaC r a)).map D.int).take (ZaC r a+1)=(Zcc all.length a (ZaC r a)).map D.int:=uD (by rw[uE,hcl];exact uH _);have hcd:ZaA r all.length a=Zcc all.length a (ZaC r a)++[a.2]:=rfl;have hcl2:=ZkV r all.length a;refine kw1 kP (kc4 e2 hrn hcl htk) kc0 ?_;refine Zee (λ(j:Nat)=>j<=ZaC r a+1) (λ j=>[(1, .d (Zac r)),(2, .ptr 2 0 0 0),(4, .ptr 4 0 0 0),(10, .ptr 10 0 0 0),(13, .int (all.length+ZaC r a)),(15, .ptr 15 0 0 0),(16, .ref 903 1 0 (ZaC r a+2) (ZaC r a+2)),(18, .int ((j:Int)+1)),(103, .d (Zak l)),(104, .int l.length),(105, .int e)]) (λ j=>[⟨1,78,1,N,λ k=>(ZaT (all++Zal r a (ZaC r a)) k).map D.int⟩]) (λ j=>[(2, .cells [.int i, .d (Zak l)]),(4, .cells [.int 0, .nilS, .nilS, .nilS]),(15, .cells [.int a.1, .int a.2]),(10, .cells [.int i, .ref 78 1 0 N N, .ref 901 2 0 (ZaO r l e++ZbB (ZaA r all.length a) j).length (ZaO r l e++ZbB (ZaA r all.length a) j).length, .ref 902 1 0 (ZaW r l e).length (ZaW r l e).length]),(901, .row 2 ((ZaO r l e++ZbB (ZaA r all.length a) j).map ZaY)),(902, .row 1 ((ZaW r l e).map Zac)),(903, .row 1 ((ZaA r all.length a).map D.int))]) (λ j=>ZaC r a+1-j) 0 ?_ ?_ ?_
           ·exact uJ _
           ·refine kF (kc5 hcd @yB.{0,0} @ZbB.eq_1 @kC @yO.{0}) [] [(903,149)] ?_;exact kT0 kc0
           ·intro j hj;have hpl:=Zl0 (ZaA r all.length a) j;have hafl:=Zje hgap e he;rw[hA]at hafl;rcases uF j (ZaC r a+1)with hjl|hjl
            ·have gc1:=ZaS (r:=ZaA r all.length a) (i:=j) (by omega);have gc2:=ZaS (r:=ZaA r all.length a) (i:=j+1) (by omega);have en:((j:Int)+1).toNat=j+1:=by omega
             have hps:=ZpO (ZaA r all.length a) j;have hpa:ZaY (ZfZ (ZaA r all.length a) j)= .ag [.int (at0 (ZaA r all.length a) j), .int (at0 (ZaA r all.length a) ((j+1:Nat):Int))]:=rfl;have hap:ZaO r l e++ZbB (ZaA r all.length a) (j+1)=(ZaO r l e++ZbB (ZaA r all.length a) j)++[ZfZ (ZaA r all.length a) j]:=by rw[hps,yP]
             have hal2:(ZaO r l e++ZbB (ZaA r all.length a) j).length<=2000:=by rw[uC];omega
             try dsimp only
             generalize ZaA r all.length a=c at*;generalize hG:ZaO r l e++ZbB c j=G at*;refine kw1 kO (kc6 gc1 gc2 en hcl2 @Cb @Zat) kc0 ?_;refine⟨j+1,?_,kF (kc8 hap @yB.{0,0} @uC.{0} @uV.{0} @uY.{0} hpa @qI @gP) [] [(901,169)] ?_,?_⟩
             ·omega
             ·exact kT0 kc0
             ·omega
            ·have:j=ZaC r a+1:=by omega
             subst this;have hcf:ZaW r l (e+1)=ZaW r l e++[ZaA r all.length a]:=by rw[ZaW,Zbm,Zh0,ha,hA];rfl
             have haf:ZaO r l (e+1)=ZaO r l e++ZbB (ZaA r all.length a) (ZaC r a+1):=by rw[ZaO,Zbm,ZhX,ha,hA];rfl
             have hcfl:=Zjp r l e he;have hnl:=ZfV r a (ZaC r a);have hcd2:((ZaA r all.length a).map D.int).take (ZaC r a+2)=(ZaA r all.length a).map D.int:=uD (by rw[uE,hcl2];exact uH _);have hcft:((ZaW r l e).map Zac).take e=(ZaW r l e).map Zac:=uD (by rw[uE,hcfl];exact uH _);refine Zau _ (ZtA _ _ _ 903 1 ((ZaA r all.length a).map D.int) rfl rfl rfl rfl (by decide)) ?_;refine kw1 kO (kc5 hcl2 @uE.{0,0} hcd2 hcfl @Zat) kc0 ?_;refine⟨e+1,?_,kF (kc8 hcf haf hall @yB.{0,0} @uC.{0} @uV.{0} @uY.{0} (kc7 hnl @qI @gP hcl2 hcd2 hcfl hcft)) [] [(902,175)] ?_,?_⟩
             ·omega
             ·exact kT0 (kc1 hall)
             ·omega
        ·have:e=l.length:=by omega
         subst this
         try dsimp only
         refine Zau _ (Zh7 _ _ _ _ ⟨ZbH rfl,ZbH rfl,(by(repeat' first|exact fmn|refine fmc ⟨⟨uU rfl,uU rfl,by dsimp only;omega⟩,?_⟩);done)⟩ rfl [2,4,10,78,901,902] rfl rfl rfl rfl) ?_;refine kw1 kO kc0 kc0 ?_;refine⟨_,rfl,⟨_,_,_,_,rfl,?_⟩,Zah ?_,trivial⟩
         ·simp(disch:=omega) only[go_sem,simprocAttr,toD];have hNt:(Zch r (r.length-1)+1).toNat=N:=by omega
          rw[Zat,Zat,if_pos (by rw[kS];exact uH _),uD (by rw[uE,kS];exact uH _)];simp only[Zea,lvD,hNt,Zae,Zac,Zak,gN];rw[if_neg (by omega),gN];rfl
         ·rfl
theorem Zm0 (g:Gr)(r:List Int):Zaa Tryz.prog 49 [gD g,Zac r] (.tup [lvD (ZaH g r).1, .int (ZaH g r).2]):=by
 rcases h:Zdr g r with _|_
 ·have:=Zrv g r h;have e:ZaH g r=(lv0,1):=by rw[ZaH,if_pos h]
  rw[e];exact this
 ·rcases h4:g.2.any Zc7 with _|_
  ·exact Zrx g r h h4
  ·have:=Zrw g r h h4;have e:ZaH g r=(lv0,8):=by rw[ZaH,if_neg (by rw[h];decide),if_pos h4]
   rw[e];exact this
end Go.Proofs.YtjjbhjnpeenbkaaGreatDoor
