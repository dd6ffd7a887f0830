/- Copies of lists of arcs; the turning of arcs. -/
import Derived.Test.YtjjbhjnpeenbkaaGreatDoorSxU
import Derived.Test.YtjjbhjnpeenbkaaGreatDoorPSFam
import Derived.Test.YtjjbhjnpeenbkaaGreatDoorPSMerge
import Derived.Test.YtjjbhjnpeenbkaaGreatDoorSo
import Derived.Test.YtjjbhjnpeenbkaaGreatDoorTypes
import Derived.Test.YtjjbhjnpeenbkaaGreatDoorSxK
import Derived.Test.YtjjbhjnpeenbkaaGreatDoorN
import Derived.Test.YtjjbhjnpeenbkaaGreatDoorBaF
import Derived.Lay
set_option linter.unusedSimpArgs false
set_option linter.unusedVariables false
set_option maxHeartbeats 16000000
namespace Go.Proofs.YtjjbhjnpeenbkaaGreatDoor.Cyc
open Go Go.PS Go.Proofs
set_option maxRecDepth 100000
attribute [local irreducible] Zab wpG Zaa Zaf
theorem Zta :Zaa Tryz.prog 210 [Zak []] (Zak []):=by
 refine kE Tryz.func210 ?_;intro hat B X w0;refine kw1 kO kc0 kc0 ?_;refine ZiK 4 rfl ?_;intro b;cases b
 ·refine kw1 (kow (Nat.beq 5) (b:=true)) kc0 kc0 ?_;exact ZcS rfl
 ·refine kw1 kO kc0 kc0 ?_;exact ZcS rfl
theorem Zjq (l:List Arc)(hl:l≠[])(hn:l.length<=1000000):Zaf Tryz.prog 210 [.d (Zak l)] [(2000, .dead)] (.ref 2000 2 0 l.length l.length) [(2000, .row 2 (l.map ZaY))]:=by
 have he:(l.map ZaY).isEmpty=false:=by simpa using hl
 have hpos:0<l.length:=zS.2 hl;refine kM Tryz.func210 ?_;intro B X w0;refine kw1 (kow (Nat.beq 5) (b:=false)) (kc2 he @Zat) kc0 ?_;refine eR [(2000,7)] [(2, .ref 2000 2 0 _ _)] [(2000, .row 2 _)] (by refine⟨?_,?_⟩<;>(repeat' first|exact fmn|refine fmc ⟨(by first|rfl|(simp(disch:=omega) only[go_sem,simprocAttr,inL];first|done|omega|(congr 1;done))),?_⟩);done) ?_;refine Za1 ?_;exact⟨rfl,uK.2 ⟨rfl,yA _⟩⟩
def Zki (a:Arc):Arc:=(a.2,a.1)
def Zet (l:List Arc)(set:List Int):List Arc:=l.mapIdx λ i a=>if Zd8 set i then Zki a else a
theorem ZgF (l:List Arc)(set:List Int):(Zet l set).length=l.length:=by simp[Zet]
theorem Zid {l:List Arc}{set:List Int}{k:Nat}{a:Arc}(h:l[k]? =some a):(Zet l set)[k]? =some (if Zd8 set k then Zki a else a):=by
 simp[Zet,List.getElem?_mapIdx,h]
theorem Zt4 (l:List Arc):Zet l []=l:=by
 refine qL λ u=>?_
 rcases uF u l.length with h|h
 ·obtain⟨a,ha⟩:=Zad h;rw[Zid ha,ha];simp[Zd8]
 ·rw[uP (by rw[ZgF];exact h),uP h]
theorem Zuj {set:List Int}{j:Nat}{x:Int}(hx:set[j]? =some x)(n:Int):Zd8 (set.take (j+1)) n=(Zd8 (set.take j) n||decide (x=n)):=by
 simp[Zd8,ZaD hx]
theorem Zt6 {l:List Arc}{set:List Int}{j i:Nat}{a:Arc}(hx:set[j]? =some (i:Int))(ha:l[i]? =some a):
  Zet l (set.take (j+1))=(Zet l (set.take j)).set i (Zki a):=by
 refine qL λ u=>?_
 rcases uF u l.length with h|h
 ·obtain⟨b,hb⟩:=Zad h;rw[Zid hb,Zuj hx,qD,Zid hb,ZgF];by_cases hi:i=u
  ·subst hi;rw[ha]at hb;cases hb;simp[h]
  ·have:¬(i:Int)=u:=by omega
   simp[hi,this]
 ·rw[uP (by rw[ZgF];exact h),uP (by rw[yL,ZgF];exact h)]
theorem ZtW {e:Nat->Int}{n k:Nat}(h:Zdm e n=0)(hk:k<n):e k=0:=by
 induction n with
 |zero=>omega
 |succ n ih=>
  simp only[Zdm]at h;split at h
  ·rename_i h0;rcases gA.1 hk with h1|rfl
   ·exact ih h0 h1
   ·exact h
  ·rename_i h0;exact(h0 h).elim
theorem Zo8 {l:List Int}{n:Int}(h:Zfm l n=0){k:Nat}{x:Int}(hx:l[k]? =some x):0<=x/\x<n:=by
 have:=ZtW h (uB.1 hx).1;simp only[ZfH,hx]at this;split at this
 ·omega
 ·omega
def ZeT (g:Gr)(set:List Int):Gr×Int:=if gOk g then(if Zfm set g.2.length=0 then((g.1,Zet g.2 set),0)else((0,[]),Zfm set g.2.length))else((0,[]),1)
theorem Zry (g:Gr)(set:List Int):Zaa Tryz.prog 158 [gD g,Zac set] (.tup [gD (ZeT g set).1, .int (ZeT g set).2]):=by
 rcases h:gOk g with _|_
 ·have hv:Zaa Tryz.prog 97 [gD g] (.bool false):=h▸Ze7 g;have e:ZeT g set=((0,[]),1):=by simp[ZeT,h]
  rw[e];refine kE Tryz.func158 ?_;intro hat B X w0;refine kw1 kO kc0 (kc1 hv) ?_;refine⟨_,rfl,⟨_,_,_,_,rfl,?_⟩,Zah ?_,trivial⟩
  ·simp(disch:=omega) only[go_sem,simprocAttr];rfl
  ·rfl
 ·have hv:Zaa Tryz.prog 97 [gD g] (.bool true):=h▸Ze7 g;obtain⟨h1,h2,h3,h4⟩:=Zhl h;obtain⟨n,l⟩:=g;dsimp only at h1 h2 h3 h4;have hs:=Zu6 set l.length;rcases gU (Zfm set l.length=0)with c|c
  ·have e:ZeT (n,l) set=((n,Zet l set),0):=by simp[ZeT,h,c]
   rw[e];rw[c]at hs;rcases gU (l=[])with hl0|hl0
   ·subst hl0;have hse:set=[]:=by
     cases set with
     |nil=>rfl
     |cons x t=>
      have:=Zo8 (x:=x) (k:=0) c rfl;simp at this;omega
    subst hse;refine kE Tryz.func158 ?_;intro hat B X w0;have hcl:=Zta;refine kw1 kO kc0 (kc3 hv hs hcl) ?_;refine Zai (λ(k:Nat)=>k=0) (λ k=>[(4, .ptr 4 0 0 0),(7, .ptr 7 0 0 0),(30, .int 0),(31, .int k)]) (λ k=>[(4, .cells [.int 0, .nilS]),(7, .cells [.int n, .d (.sl [])])]) (λ k=>k) 0 ?_ ?_ ?_
    ·rfl
    ·exact kN kc0 []
    ·rintro k rfl;refine kw1 kO kc0 kc0 ?_;refine⟨_,rfl,⟨_,_,_,_,rfl,?_⟩,Zah ?_,trivial⟩
     ·simp(disch:=omega) only[go_sem,simprocAttr];rfl
     ·rfl
   ·have hcl:=Zjq l hl0 (by omega);refine kE Tryz.func158 ?_;intro hat B X w0;have hsl:=Zbb 1 hat rfl;rw[uE]at hsl;refine kw1 kO kc0 (kc3 hv hs (kmc [(2000,27)] hcl)) ?_;refine Zai (λ(k:Nat)=>k<=set.length) (λ k=>[(2, .ptr 2 0 0 0),(4, .ptr 4 0 0 0),(7, .ptr 7 0 0 0),(29, .d (Zac set)),(30, .int set.length),(31, .int k)]) (λ k=>[(2, .cells [.int n, .d (Zak l)]),(4, .cells [.int 0, .nilS]),(7, .cells [.int n, .ref 27 2 0 l.length l.length]),(27, .row 2 ((Zet l (set.take k)).map ZaY))]) (λ k=>set.length-k) 0 ?_ ?_ ?_
    ·exact uJ _
    ·exact kN (kc2 @yY.{0} @Zt4) []
    ·intro k hk;rcases uF k set.length with hlt|hge
     ·obtain⟨x,hx⟩:=Zad hlt;have hxi:=Zo8 c hx;obtain⟨i,rfl⟩:∃i:Nat,x=i:=⟨x.toNat,by omega⟩;obtain⟨p,hp⟩:=Zad (show i<l.length by omega);have hg:=Zid (set:=set.take k) hp;have hstep:=Zt6 hx hp;have hlen:=ZgF l (set.take k);refine kw1 kO (kc4 hx hp hg hlen) kc0 ?_;refine⟨k+1,?_,kN (kc2 @hstep @yR.{0,0}) [],?_⟩
      ·omega
      ·omega
     ·refine kw1 kO kc0 kc0 ?_;have:k=set.length:=by omega
      subst this;refine⟨_,rfl,⟨_,_,_,_,rfl,?_⟩,Zah ?_,trivial⟩
      ·simp(disch:=omega) only[go_sem,simprocAttr];simp[toD,gD,Zak,ZgF,uD]
      ·rfl
  ·have e:ZeT (n,l) set=((0,[]),Zfm set l.length):=by simp[ZeT,h,c]
   rw[e];refine kE Tryz.func158 ?_;intro hat B X w0;refine kw1 kO kc0 (kc2 hv hs) ?_;refine⟨_,rfl,⟨_,_,_,_,rfl,?_⟩,Zah ?_,trivial⟩
   ·simp(disch:=omega) only[go_sem,simprocAttr];rfl
   ·rfl
open Go.Cy (NA)
def tzF :Nat->Nat->Nat
 |0,_=>0
 |f+1,x=>if x%2=1 then 0 else tzF f (x/2)+1
def tz (x:Nat):Nat:=tzF 8 x
theorem Zzf :tabs Tryz.prog=[(1,Zd3)]:=by kernel_rfl
theorem Zze :(ZeA [(1,Zd3)] 1).length=64:=by decide+kernel
def tzI (x:Nat):Nat:=((IntKind.u64.wrap (IntKind.u64.wrap ((BitVec.ofInt 64 (x:Int)&&&BitVec.ofInt 64 (IntKind.u64.wrap (-(x:Int)))).toNat:Int)*285870213051353865)).fdiv (2^min 58 64)).toNat
theorem Zzy :∀x:Nat,x<256->0<x->(IntKind.u64.wrap (IntKind.u64.wrap ((BitVec.ofInt 64 (x:Int)&&&BitVec.ofInt 64 (IntKind.u64.wrap (-(x:Int)))).toNat:Int)*285870213051353865)).fdiv (2^min 58 64)=(tzI x:Int)/\tzI x<64/\Zd3[tzI x]? =some (tz x:Int):=by decide+kernel
theorem Zzz {k:Nat}{v:Int}(h:Zd3[k]? =some v):(ZeA [(1,Zd3)] 1).drop k=D.sc (.int .u8 v)::(ZeA [(1,Zd3)] 1).drop (k+1):=by
 have h1:(ZeA [(1,Zd3)] 1)[k]? =some (D.sc (.int .u8 v)):=by
  show(Zd3.map λ v=>D.sc (.int .u8 v))[k]? =_;rw[uI,h];rfl
 obtain⟨h2,h3⟩:=uB.1 h1;rw[gL h2,h3]
theorem ZrS (x:Nat)(h0:0<x)(h1:x<256):Zaa Tryz.prog 261 [.sc (.int .u64 x)] (.int (tz x)):=by
 obtain⟨k,e1,e2,e3⟩:∃k:Nat,(IntKind.u64.wrap (IntKind.u64.wrap ((BitVec.ofInt 64 (x:Int)&&&BitVec.ofInt 64 (IntKind.u64.wrap (-(x:Int)))).toNat:Int)*285870213051353865)).fdiv (2^min 58 64)=(k:Int)/\k<64/\Zd3[k]? =some (tz x:Int):=⟨_,Zzy x h1 h0⟩;have e4:=Zzz e3;have e5:(0:Int)<=k:=Int.natCast_nonneg _;have e6:IntKind.i64.wrap (tz x:Int)=tz x:=by
  have:∀x:Nat,x<256->IntKind.i64.wrap (tz x:Int)=tz x:=by decide+kernel
  exact this x h1
 refine kE Tryz.func261 ?_;intro hat B X w0;refine kw1 kO (kc7 @Zzf e1 e4 e6 e2 @Zze @uQ) kc0 ?_;exact Zah rfl
theorem ZrT (x:Nat)(h0:0<x)(h1:x<256):Zaa Tryz.prog 236 [.sc (.int .u64 x)] (.int (tz x)):=by
 have h:=ZrS x h0 h1;refine kE Tryz.func236 ?_;intro hat B X w0;refine kw1 kO kc0 (kc1 h) ?_;exact Zah rfl
end Go.Proofs.YtjjbhjnpeenbkaaGreatDoor.Cyc
namespace Go.Proofs.YtjjbhjnpeenbkaaGreatDoor.Cyc
open Go Go.PS Go.Proofs
open Go.Cy (NA ZbV Zcm ZfK Zeq ZdD Zd7 atN inB ZdF fmF ZdV)
set_option maxRecDepth 100000
attribute [local irreducible] Zab wpG Zaa Zaf
abbrev Zaw (n:Nat):D:= .int n
abbrev Zcj (l:List Nat):D:= .sl (l.map Zaw)
def Za4 (c:Nat->Nat->Nat)(f:PV):List PV:=(List.range 64).map (λ i=>PV.int (c (i/8) (i%8)))++[f]
theorem ZiY (c:Nat->Nat->Nat)(f:PV):(Za4 c f).length=65:=by simp[Za4]
theorem Zz1 (c:Nat->Nat->Nat)(f:PV){v u:Nat}(hv:v<8)(hu:u<8):∃r,(Za4 c f).drop (v*8+u)= .int (c v u)::r:=by
 have h1:(Za4 c f)[v*8+u]? =some (.int (c v u)):=by
  rw[Za4,qH (by simp;omega),uI,qQ (by omega)];simp only[yV];rw[show(v*8+u)/8=v by omega,show(v*8+u)%8=u by omega]
 obtain⟨h2,h3⟩:=uB.1 h1;exact⟨_,by rw[gL h2,h3]⟩
theorem Zrp (n:PV)(c:Nat->Nat->Nat)(f:PV){v u:Nat}(hv:v<8)(hu:u<8):∃r,(n::Za4 c f).drop (1+v*8+u)= .int (c v u)::r:=by
 rw[show 1+v*8+u=(v*8+u)+1 by omega,Bq];exact Zz1 c f hv hu
theorem ZmU (c:Nat->Nat->Nat)(f:PV):(Za4 c f).drop 64=[f]:=by
 rw[Za4,List.drop_left' (by simp)]
theorem ZkO :∀x:Nat,x<256->0<x->tz x<8/\Go.Cy.bits 8 x=tz x::Go.Cy.bits 8 (x&&&(x-1))/\(x&&&(x-1))<x:=by decide+kernel
theorem ZnB {n s:Nat}(h:n<=8)(hs:s<2^n):Go.Cy.bits n s=Go.Cy.bits 8 s:=by
 have e:List.range 8=List.range n++(List.range (8-n)).map (n+·):=by
  rw[show 8=n+(8-n) by omega,List.range_add];simp
 rw[Go.Cy.bits,Go.Cy.bits,e,gX];have:((List.range (8-n)).map (n+·)).filter (λ u=>s.testBit u)=[]:=by
  rw[List.filter_eq_nil_iff];intro u hu;obtain⟨k,_,rfl⟩:=uN.1 hu;rw[kZ (gB hs (kQ (by decide) (by omega)))]
  decide
 rw[this,yO]
theorem ZzA {n x:Nat}(h:n<=8)(h0:0<x)(hx:x<2^n):tz x<n:=by
 have:=Go.Cy.pow_le8 h;obtain⟨_,h2,_⟩:=ZkO x (by omega) h0;have h3:tz x∈Go.Cy.bits n x:=by rw[ZnB h hx,h2];simp
 exact(Go.Cy.mem_bits.1 h3).1
def Zfz (f:Nat->Nat)(x:Nat):Nat:=((Go.Cy.bits 8 x).map f).sum
theorem Zy5 {f:Nat->Nat}{x:Nat}(hx:x<256)(h0:0<x):Zfz f x=f (tz x)+Zfz f (x&&&(x-1)):=by
 obtain⟨_,h2,_⟩:=ZkO x hx h0;rw[Zfz,h2];simp[Zfz]
theorem Zy6 (f:Nat->Nat):Zfz f 0=0:=by
 have:Go.Cy.bits 8 0=[]:=by decide+kernel
 rw[Zfz,this];rfl
theorem Zq8 {f:Nat->Nat}{k:Nat}:∀{l:List Nat},(∀u,u∈l->f u<=k)->(l.map f).sum<=l.length*k
 |[],_=>by simp
 |x::l,h=>by
  have h1:=h x (by simp);have h2:=Zq8 λ u hu=>h u (uM _ hu)
  simp only[uX,jD,uV,qE];omega
theorem Zy4 {f:Nat->Nat}{k x:Nat}(h:∀u,f u<=k):Zfz f x<=8*k:=by
 refine gR (Zq8 λ u _=>h u) (yF _ ?_);exact gR (jS _ _) (by simp)
theorem Ztn (n:Nat)(c:Nat->Nat->Nat)(fm:List Nat)(s:Nat):Zcm n c fm s<=1048576:=by
 cases s with
 |zero=>rw[Go.Cy.costN_zero];omega
 |succ k=>rw[Go.Cy.costN_succ,ZfK];exact Go.Cy.foldMin_le.1
def ZcJ (n:Nat)(c:Nat->Nat->Nat)(fm:List Nat)(k v:Nat):Nat:=Zd7 (ZdD n fm (k+1)) (Zeq n c (ZbV n c fm k) (k+1)) (List.range v) 1048576
theorem ZrX (n:Nat)(c:Nat->Nat->Nat)(fm:List Nat)(k:Nat):ZcJ n c fm k 0=1048576:=rfl
theorem ZrW (n:Nat)(c:Nat->Nat->Nat)(fm:List Nat)(k v:Nat):ZcJ n c fm k (v+1)=if ZdD n fm (k+1) v=true then min (ZcJ n c fm k v) (Zeq n c (ZbV n c fm k) (k+1) v)else ZcJ n c fm k v:=by
 simp[ZcJ,Zd7,gG]
def Zdb (n:Nat)(c:Nat->Nat->Nat)(fm:List Nat)(L k:Nat)(x:Nat):List D:=(ZbV n c fm k).map Zaw++Zaw x::List.replicate (L-(k+2)) (.int 0)
def Zeh (n:Nat)(c:Nat->Nat->Nat)(fm:List Nat)(L k:Nat):List D:=(ZbV n c fm k).map Zaw++List.replicate (L-(k+1)) (.int 0)
theorem Zxk (n:Nat)(c:Nat->Nat->Nat)(fm:List Nat)(L k x y:Nat):(Zdb n c fm L k x).set (k+1) (Zaw y)=Zdb n c fm L k y:=by
 have h:=Go.Cy.costL_len n c fm k;rw[Zdb,List.set_append_right _ _ (by simp[h]),uE,h,gZ];rfl
theorem Zxo (n:Nat)(c:Nat->Nat->Nat)(fm:List Nat){L k:Nat}(y:Nat)(hk:k+1<L):(Zeh n c fm L k).set (k+1) (Zaw y)=Zdb n c fm L k y:=by
 have h:=Go.Cy.costL_len n c fm k;rw[Zeh,List.set_append_right _ _ (by simp[h]),uE,h,gZ,show L-(k+1)=(L-(k+2))+1 by omega,kU];rfl
theorem Zxj (n:Nat)(c:Nat->Nat->Nat)(fm:List Nat){L k x:Nat}(hk:k+1<L):(Zdb n c fm L k x).length=L:=by
 simp[Zdb,Go.Cy.costL_len];omega
theorem Zxm (n:Nat)(c:Nat->Nat->Nat)(fm:List Nat){L k:Nat}(hk:k<L):(Zeh n c fm L k).length=L:=by
 simp[Zeh,Go.Cy.costL_len];omega
theorem ZnZ (n:Nat)(c:Nat->Nat->Nat)(fm:List Nat){k s:Nat}(h:s<=k):(ZbV n c fm k)[s]? =some (Zcm n c fm s):=by
 have h1:s<(ZbV n c fm k).length:=by rw[Go.Cy.costL_len];omega
 have h2:=Go.Cy.costL_at n c fm h;rw[atN,uL h1]at h2;rw[uL h1];simp only[yQ]at h2;rw[h2]
theorem Zxi (n:Nat)(c:Nat->Nat->Nat)(fm:List Nat){L k x s:Nat}(h:s<=k):(Zdb n c fm L k x)[s]? =some (Zaw (Zcm n c fm s)):=by
 rw[Zdb,qH (by simp[Go.Cy.costL_len];omega),uI,ZnZ n c fm h];rfl
theorem Zxg (n:Nat)(c:Nat->Nat->Nat)(fm:List Nat)(L k x:Nat):(Zdb n c fm L k x)[k+1]? =some (Zaw x):=by
 have h:=Go.Cy.costL_len n c fm k;rw[Zdb,yZ (by simp[h])];simp[h]
theorem Zxl (n:Nat)(c:Nat->Nat->Nat)(fm:List Nat){L k s:Nat}(h:s<=k):(Zeh n c fm L k)[s]? =some (Zaw (Zcm n c fm s)):=by
 rw[Zeh,qH (by simp[Go.Cy.costL_len];omega),uI,ZnZ n c fm h];rfl
theorem Zxn (n:Nat)(c:Nat->Nat->Nat)(fm:List Nat){L k:Nat}(h:k+1<L):(Zeh n c fm L k)[k+1]? =some (.int 0):=by
 have h1:=Go.Cy.costL_len n c fm k;rw[Zeh,yZ (by simp[h1]),gI];simp[h1];omega
theorem Zxh (n:Nat)(c:Nat->Nat->Nat)(fm:List Nat)(L k:Nat):Zdb n c fm L k (ZcJ n c fm k n)=Zeh n c fm L (k+1):=by
 have:ZbV n c fm (k+1)=ZbV n c fm k++[ZcJ n c fm k n]:=rfl;rw[Zdb,Zeh,this,yB,yP];rfl
theorem Zxp (n:Nat)(c:Nat->Nat->Nat)(fm:List Nat){L:Nat}(h:0<L):Zeh n c fm L 0=List.replicate L (.int 0):=by
 obtain⟨k,rfl⟩:∃k,L=k+1:=⟨L-1,by omega⟩;rw[kU];rfl
theorem Zo5 (n:Nat)(c:Nat->Nat->Nat)(fm:List Nat)(h8:n<=8)(hcc:∀u v,c u v<=256)(hl:fm.length=n)(hf:∀v,atN fm v<2^n):
  Zaf Tryz.prog 207 [.ptr 1000 0 0 0] [(1000, .cells (.int n::Za4 c (.ref 1001 1 0 n n))),(1001, .row 1 (fm.map Zaw))] (.int (ZdF n c fm)) [(1000, .cells (.int n::Za4 c (.ref 1001 1 0 n n))),(1001, .row 1 (fm.map Zaw))]:=by
 have hpos:=Go.Cy.pow_pos' n;have hp8:=Go.Cy.pow_le8 h8;have hsh:=Zj8 n h8;obtain⟨L,hL⟩:∃L,L=2^n:=⟨_,rfl⟩;rw[<-hL]at hpos hp8 hsh;have hx1:=ZmU c (.ref 1001 1 0 n n);refine kM Tryz.func207 ?_;intro B X w0;refine kw1 kO (kc1 hsh) kc0 ?_;refine Zai (λ(k:Nat)=>k<L) (λ k=>[(0, .ptr 1000 0 0 0),(3, .ref 14 1 0 L L),(4, .int (k+1:Nat))]) (λ k=>[(14, .row 1 (Zeh n c fm L k)),(1000, .cells (.int n::Za4 c (.ref 1001 1 0 n n))),(1001, .row 1 (fm.map Zaw))]) (λ k=>L-k) 0 ?_ ?_ ?_
 ·exact hpos
 ·exact kN (kc1 (Zxp n c fm hpos)) []
 ·intro k hk;have hpl:=Zxm n c fm hk;rcases uF (k+1) L with hlt|hge
  ·have hset:=Zxo n c fm 1048576 hlt;have hnx:=Zxn n c fm hlt;refine kw1 kO (kc4 hx1 hpl hset hnx) kc0 ?_;refine Zai (λ(v:Nat)=>v<=n) (λ v=>[(0, .ptr 1000 0 0 0),(3, .ref 14 1 0 L L),(4, .int (k+1:Nat)),(27, .int n),(28, .int v)]) (λ v=>[(14, .row 1 (Zdb n c fm L k (ZcJ n c fm k v))),(1000, .cells (.int n::Za4 c (.ref 1001 1 0 n n))),(1001, .row 1 (fm.map Zaw))]) (λ v=>n-v) 0 ?_ ?_ ?_
   ·exact uJ _
   ·exact kN (kc1 @ZrX) []
   ·intro v hv;have hkl:(Zdb n c fm L k (ZcJ n c fm k v)).length=L:=Zxj n c fm hlt;rcases uF v n with hvl|hvg
    ·obtain⟨f,hfv⟩:=Zad (show v<fm.length by omega);have hfa:atN fm v=f:=by rw[atN,hfv];rfl
     have hf8:f<2^n:=by rw[<-hfa];exact hf v
     have hb:=Zx1 (k+1) (by omega) v (by omega);have hsucc:=ZrW n c fm k v;by_cases hbit:(k+1).testBit v=true
     ·rw[if_pos hbit]at hb;obtain⟨p,hp⟩:∃p,p=2^v:=⟨_,rfl⟩;obtain⟨r,hr⟩:∃r,r=k+1-2^v:=⟨_,rfl⟩;have hrk:=(Go.Cy.clr (k+1) (by omega) v (by omega) hbit).1;rw[<-hr]at hrk;have hp8':p<256:=by rw[hp];exact Ah (n:=8) (by decide) (by omega)
      have e1:=Zj8 v (by omega);rw[<-hp]at e1;have e2:=ZnK (a:=k+1) (b:=p) (by omega) (by omega);rw[hp,Zr0 (k+1) (by omega) v (by omega) hbit,<-hr,<-hp]at e2;have e3:=ZnK (a:=f) (b:=r) (by omega) (by omega);have hz:=Zr1 (b:=r) hf8;have hok:ZdD n fm (k+1) v=inB n f r:=by rw[ZdD,hbit,hfa,hr];rfl
      rw[hok]at hsucc;have hg:=Zxi n c fm (L:=L) (x:=ZcJ n c fm k v) (show r<=k by omega);rcases hin:inB n f r with _|_
      ·rw[hin]at hsucc hz;have hz':¬((Zem f r:Nat):Int)=0:=λ h=>by have:=hz.1 (by omega);cases this
       refine kw1 kO (kc8 hx1 hkl hfv hb e1 e2 e3 @hz') kc0 ?_;refine⟨v+1,?_,eL [] _ _ (by refine⟨?_,?_⟩<;>(repeat' first|exact fmn|refine fmc ⟨(by first|rfl|(simp(disch:=omega) only[go_sem,simprocAttr,inL,hsucc,if_neg zZ];first|done|omega|(congr 1;done))),?_⟩);done),?_⟩
       ·omega
       ·omega
      ·rw[hin]at hsucc hz;have hz':=hz.2 rfl;have hr8:r<256:=by omega
       have hcg:Zeq n c (ZbV n c fm k) (k+1) v=Zcm n c fm r+Zfz (c v) r:=by
        rw[Zeq,<-hr,Go.Cy.costL_at n c fm (by omega),ZnB h8 (by omega)];rfl
       have hcn:=Ztn n c fm r;have hsb:=Zy4 (x:=r) (hcc v);refine kw1 kO (kc8 hx1 hkl hfv hb e1 e2 e3 (kc2 @hz' hg)) kc0 ?_;refine Zai (λ(q:Nat×Nat)=>match q with|(x,y)=>x<=r/\y+Zfz (c v) x=Zeq n c (ZbV n c fm k) (k+1) v) (λ(x,y)=>[(0, .ptr 1000 0 0 0),(3, .ref 14 1 0 L L),(4, .int (k+1:Nat)),(5, .int v),(7, .int y),(8, .int x),(27, .int n),(28, .int v)]) (λ(x,y)=>[(14, .row 1 (Zdb n c fm L k (ZcJ n c fm k v))),(1000, .cells (.int n::Za4 c (.ref 1001 1 0 n n))),(1001, .row 1 (fm.map Zaw))]) (λ(x,y)=>x) (r,Zcm n c fm r) ?_ ?_ ?_
       ·exact⟨uH _,hcg.symm⟩
       ·exact kN kc0 []
       ·rintro⟨x,y⟩ ⟨hxr,hy⟩;dsimp only at hxr hy|-;rcases qT x with rfl|hx0
        ·rw[Zy6,gH]at hy;have hcu:=Zxg n c fm L k (ZcJ n c fm k v);have hst:=Zxk n c fm L k (ZcJ n c fm k v);have hmin:(if(y:Int)<(ZcJ n c fm k v:Nat)then(y:Int)else(ZcJ n c fm k v:Nat))=(min (ZcJ n c fm k v) y:Nat):=by omega
         refine kw1 kO (kc5 hx1 hkl hcu hst hmin) kc0 ?_;refine⟨v+1,?_,kN (kc3 @hsucc @if_pos.{0} hy) [],?_⟩
         ·omega
         ·omega
        ·have htz:=ZrT x hx0 (by omega);have htn:=ZzA h8 hx0 (by omega:x<2^n);have hstep:=Zy5 (f:=c v) (show x<256 by omega) hx0;have hlt2:=(ZkO x (by omega) hx0).2.2;obtain⟨q,hq⟩:=Zrp (.int n) c (.ref 1001 1 0 n n) (show v<8 by omega) (show tz x<8 by omega);have hcv:=hcc v (tz x);have hw:=ZmS (x:=(y:Int)+(c v (tz x):Nat)) (by omega) (by omega);have hu64:IntKind.u64.wrap (x:Int)=x:=by
          have:∀x:Nat,x<256->IntKind.u64.wrap (x:Int)=x:=by decide+kernel
          exact this x (by omega)
         have hand:=ZsI (a:=x) (b:=x-1) (by omega) (by omega);have hx1':((x:Int)-1)=((x-1:Nat):Int):=by omega
         refine kw1 kO (kc7 hx1 hkl hu64 hq hw @hx1' hand) (kc1 htz) ?_;refine⟨(x&&&(x-1),y+c v (tz x)),?_,kN kc0 [],?_⟩
         ·dsimp only;exact⟨by omega,by omega⟩
         ·exact hlt2
     ·rw[if_neg hbit]at hb;have hok:ZdD n fm (k+1) v=false:=by rw[ZdD];simp[hbit]
      rw[hok]at hsucc;refine kw1 kO (kc4 hx1 hkl hfv hb) kc0 ?_;refine⟨v+1,?_,eL [] _ _ (by refine⟨?_,?_⟩<;>(repeat' first|exact fmn|refine fmc ⟨(by first|rfl|(simp(disch:=omega) only[go_sem,simprocAttr,inL,hsucc,if_neg zZ];first|done|omega|(congr 1;done))),?_⟩);done),?_⟩
      ·omega
      ·omega
    ·have:v=n:=by omega
     subst this;refine kw1 kO (kc1 hx1) kc0 ?_;refine⟨k+1,?_,kN (kc1 @Zxh) [],?_⟩
     ·omega
     ·omega
  ·have:k+1=L:=by omega
   have hlg:=Zxl n c fm (L:=L) (k:=k) (uH k);have e1:(L:Int)-1=k:=by omega
   have e2:ZdF n c fm=Zcm n c fm k:=by rw[ZdF];congr 1;omega
   rw[e2];refine kw1 kO (kc3 hpl e1 hlg) kc0 ?_;exact rfl
end Go.Proofs.YtjjbhjnpeenbkaaGreatDoor.Cyc
namespace Go.Proofs.YtjjbhjnpeenbkaaGreatDoor.Cyc
open Go Go.PS Go.Proofs
open Go.Cy (NA InN atN ZdF cnt ZbA ZeO Zcd Zbn Zdn)
set_option maxRecDepth 100000
attribute [local irreducible] Zab wpG Zaa Zaf
def castA (l:List NA):List Arc:=l.map λ a=>((a.1:Int),(a.2:Int))
theorem castA_len (l:List NA):(castA l).length=l.length:=by simp[castA]
theorem castA_get {l:List NA}{k:Nat}{a:NA}(h:l[k]? =some a):(castA l)[k]? =some ((a.1:Int),(a.2:Int)):=by simp[castA,h]
theorem ZmV (objs:Nat->Ob)(k:Nat)(c:Nat->Nat->Nat)(f:PV):(Za4 c f).flatMap (PV.refs objs k)=PV.refs objs k f:=by
 have h:∀l:List Nat,(l.map (λ i=>PV.int (c (i/8) (i%8)))).flatMap (PV.refs objs k)=[]:=by
  intro l
  induction l with
  |nil=>rfl
  |cons a l ih=>rw[uX,gE,ih];cases k<;>rfl
 rw[Za4,List.flatMap_append,h];simp
theorem ZmW (g:Nat->Nat)(c:Nat->Nat->Nat)(f:PV):(Za4 c f).map (PV.ren g)=Za4 c (f.ren g):=by
 rw[Za4,Za4,yB,gN];rfl
theorem Zz2 (n:PV)(c c':Nat->Nat->Nat)(f:PV){u v:Nat}(hu:u<8)(hv:v<8)(h:∀i j,i<8->j<8->c' i j=if i=u/\j=v then c u v+1 else c i j):
  ZbE (n::Za4 c f) (1+u*8+v) [.int ((c u v:Int)+1)]=n::Za4 c' f:=by
 have e:ZbE (n::Za4 c f) (1+u*8+v) [.int ((c u v:Int)+1)]=n::ZbE (Za4 c f) (u*8+v) [.int ((c u v:Int)+1)]:=by
  rw[ZbE,ZbE,show 1+u*8+v=(u*8+v)+1 by omega,Bp];simp only[uV,uY,qO,jM];rw[show u*8+v+1+1=(u*8+v+1)+1 from rfl,Bq]
 rw[e]
 congr 1
 refine qL λ k=>?_
 rw[Zif _ _ _ (by simp[ZiY];omega)];simp only[uV,uY,qO];rcases uF k 64 with hk|hk
 ·have hg:∀d:Nat->Nat->Nat,(Za4 d f)[k]? =some (.int (d (k/8) (k%8))):=λ d=>by
   rw[Za4,qH (by simp;omega),uI,qQ hk];rfl
  rw[hg,hg,h (k/8) (k%8) (by omega) (by omega)];by_cases hc:k=u*8+v
  ·subst hc;rw[if_neg (by omega),if_pos (by omega),if_pos (by omega)];simp
  ·rw[if_neg (show¬(k/8=u/\k%8=v) by omega)];split
   ·rfl
   ·rw[if_neg (by omega)]
 ·rw[if_neg (by omega),if_neg (by omega)];have hg:∀d:Nat->Nat->Nat,(Za4 d f)[k]? =[f][k-64]? :=λ d=>by
   rw[Za4,yZ (by simp;omega)];simp
  rw[hg,hg]
theorem Zrq (n:PV)(c:Nat->Nat->Nat)(f f':PV):ZbE (n::Za4 c f) 65 [f']=n::Za4 c f':=by
 have h:(List.map (λ i=>PV.int (c (i/8) (i%8))) (List.range 64)).length=64:=by simp
 rw[ZbE,Za4,show 65=64+1 from rfl,Bp,List.take_left' h];simp only[uV,uY,qO];rw[jZ (by simp)];simp[Za4]
theorem ZnX (l:List NA)(a:NA)(u v:Nat):cnt (l++[a]) u v=cnt l u v+Go.Cy.ind a u v:=by
 have:=Go.Cy.cnt_cons a [] u v;simp only[cnt,gX,uC,zK,uY]at this|-;omega
theorem ZnW (l:List NA)(u v:Nat):cnt l u v<=l.length:=jS _ _
theorem ZpF {fm:List Nat}{v u f:Nat}(h:fm[v]? =some f):(fm.map Zaw).set v (.int ((f|||2^u:Nat):Int))=(ZbA fm v u).map Zaw:=by
 rw[ZbA,yR,atN,h];rfl
theorem Zpt (l:List Nat):∀d,d∈l.map Zaw->d.cells.length=1:=Zjm Zaw 1 (λ _=>rfl) l
theorem ZgO (x:Int):∀d,d∈[D.int x]->d.cells.length=1:=by intro d hd;rw[uR]at hd;subst hd;rfl
def ZgL (g:Gr):List Nat×Int:=if gOk g then(if 8<g.1 then([],2)else(Zdn g.1.toNat (g.2.map λ a=>(a.1.toNat,a.2.toNat)),0))else([],1)
theorem Zrz (n:Nat)(l:List NA)(h:gOk ((n:Int),castA l)=true)(hi:InN n l)(hll:l.length<=256)(h8:n<=8):Zaa Tryz.prog 156 [gD ((n:Int),castA l)] (.tup [Zcj (Zdn n l), .int 0]):=by
 have hv:Zaa Tryz.prog 97 [gD ((n:Int),castA l)] (.bool true):=h▸Ze7 _;have hcl:=castA_len l;refine kE Tryz.func156 ?_;intro hat B X w0;refine kw1 kO (kc1 hcl) (kc1 hv) ?_;refine Zai (λ(k:Nat)=>k<=l.length) (λ k=>[(1, .ptr 1 0 0 0),(4, .ptr 26 0 0 0),(28, .d (Zak (castA l))),(29, .int l.length),(30, .int k)]) (λ k=>[(1, .cells [.int n, .d (Zak (castA l))]),(26, .cells (.int n::Za4 (cnt (l.take k)) (.ref 24 1 0 n n))),(24, .row 1 ((List.replicate n 0).map Zaw))]) (λ k=>l.length-k) 0 ?_ ?_ ?_
 ·exact uJ _
 ·exact kN (kc1 @zI.{0,0}) []
 ·intro k hk;rcases uF k l.length with hlt|hge
  ·obtain⟨a,ha⟩:=Zad hlt;have hp:=castA_get ha;have hin:=hi a (uA ha);have htk:l.take (k+1)=l.take k++[a]:=ZaD ha;by_cases c:a.1=a.2
   ·have e:cnt (l.take (k+1))=cnt (l.take k):=by
     funext u v
     rw[htk,ZnX,Go.Cy.ind,if_neg (λ h=>h.1 c)];rfl
    have c':(a.1:Int)=a.2:=by omega
    refine kw1 kO (kc3 hp hcl @c') kc0 ?_;refine⟨k+1,?_,kN (kc1 e) [],?_⟩
    ·omega
    ·omega
   ·have c':¬(a.1:Int)=a.2:=by omega
    obtain⟨q,hq⟩:=Zrp (.int n) (cnt (l.take k)) (.ref 24 1 0 n n) (show a.1<8 by omega) (show a.2<8 by omega);have hle:=ZnW (l.take k) a.1 a.2;rw[uS]at hle;have hw:=ZmS (x:=(cnt (l.take k) a.1 a.2:Int)+1) (by omega) (by omega);have hs:=Zz2 (.int n) (cnt (l.take k)) (cnt (l.take (k+1))) (.ref 24 1 0 n n) (show a.1<8 by omega) (show a.2<8 by omega) (λ i j _ _=>by
     rw[htk,ZnX,Go.Cy.ind];by_cases c2:i=a.1/\j=a.2
     ·rw[if_pos c2,if_pos ⟨c,c2.1.symm,c2.2.symm⟩,c2.1,c2.2]
     ·rw[if_neg c2,if_neg (λ h=>c2 ⟨h.2.1.symm,h.2.2.symm⟩)];rfl)
    have hxl:(PV.int n::Za4 (cnt (l.take k)) (.ref 24 1 0 n n)).length=66:=by rw[uV,ZiY]
    refine kw1 kO (kc7 hp hcl @c' hq hw hs @ZiY) kc0 ?_;refine⟨k+1,?_,kN kc0 [],?_⟩
    ·omega
    ·omega
  ·have hk:k=l.length:=by omega
   subst hk;rw[yI];have hrn:(List.replicate n 0).length=n:=qV;have hc256:∀u v,cnt l u v<=256:=λ u v=>gR (ZnW l u v) hll
   have hdec:=Go.Cy.dec_all h8 hi (by omega:l.length<1048576);have hl0:=Zo5 n (cnt l) (List.replicate n 0) h8 hc256 hrn (λ v=>by rw[Go.Cy.atN_rep];exact Go.Cy.pow_pos' n);refine kw1 kO (kc3 hcl @ZmV @gE.{0,0}) (kc1 (kmc [(1000,26),(1001,24)] hl0)) ?_;refine kR kc0 [(900,24)] [(1, .ptr 1 0 0 0),(4, .ptr 26 0 0 0),(7, .int (Zbn n l)),(8, .nilS),(58, .d (Zak (castA l))),(59, .int l.length),(60, .int (0:Nat))] [(1, .cells [.int n, .d (Zak (castA l))]),(26, .cells (.int n::Za4 (cnt l) (.ref 900 1 0 n n))),(900, .row 1 ((List.replicate n 0).map Zaw))] ?_;refine Zau _ (Zd5 8 901 1 rfl rfl) ?_;refine Zai (λ(k:Nat)=>k<=l.length) (λ k=>[(1, .ptr 1 0 0 0),(4, .ptr 26 0 0 0),(7, .int (Zbn n l)),(8, .ref 901 1 0 (Zcd n (cnt l) (Zbn n l) l k).2.length (Zcd n (cnt l) (Zbn n l) l k).2.length),(58, .d (Zak (castA l))),(59, .int l.length),(60, .int k)]) (λ k=>[(1, .cells [.int n, .d (Zak (castA l))]),(26, .cells (.int n::Za4 (cnt l) (.ref 900 1 0 n n))),(900, .row 1 ((Zcd n (cnt l) (Zbn n l) l k).1.map Zaw)),(901, .row 1 ((Zcd n (cnt l) (Zbn n l) l k).2.map Zaw))]) (λ k=>l.length-k) 0 ?_ ?_ ?_
   ·exact uJ _
   ·exact kN kc0 []
   ·intro k hk;rcases uF k l.length with hlt|hge
    ·obtain⟨a,ha⟩:=Zad hlt;have hp:=castA_get ha;have hin:=hi a (uA ha);have hD:=hdec k hk;have hDs:Zcd n (cnt l) (Zbn n l) l (k+1)=ZeO n (cnt l) (Zbn n l) k a (Zcd n (cnt l) (Zbn n l) l k):=by rw[Zcd,ha]
     revert hD hDs;generalize Zcd n (cnt l) (Zbn n l) l k=st;obtain⟨fm,Dk⟩:=st;intro hD hDs;dsimp only at hD|-;have hfl:=hD.len;have hDl:Dk.length<=k:=Go.Cy.nd_le (hD.asc.imp λ h=>Ci h) hD.below;by_cases c:a.1=a.2
     ·rw[ZeO,if_pos c]at hDs;have c':(a.1:Int)=a.2:=by omega
      refine kw1 kO (kc3 hp hcl @c') kc0 ?_;refine⟨k+1,?_,kN (kc1 hDs) [],?_⟩
      ·omega
      ·omega
     ·have c':¬(a.1:Int)=a.2:=by omega
      rw[ZeO,if_neg c]at hDs;have hv1:a.1<fm.length:=by omega
      have hv2:a.2<fm.length:=by omega
      obtain⟨f1,hf1⟩:=Zad hv1;obtain⟨f2,hf2⟩:=Zad hv2;have hx1:=ZmU (cnt l) (.ref 900 1 0 n n);have hx2:=ZmU (cnt l) (.ref 77 1 0 n n);have hs1:=Zrq (.int n) (cnt l) (.ref 900 1 0 n n) (.ref 77 1 0 n n);have hs2:=Zrq (.int n) (cnt l) (.ref 77 1 0 n n) (.ref 900 1 0 n n);have hmf:(fm.map Zaw).length=n:=by rw[uE,hfl]
      have hmt:(fm.map Zaw).take n=fm.map Zaw:=uD (by omega);have hfa1:atN fm a.1=f1:=by rw[atN,hf1];rfl
      have hfa2:atN fm a.2=f2:=by rw[atN,hf2];rfl
      have hb1:=gB (hfa1▸hD.lt a.1) (Go.Cy.pow_le8 h8);have hb2:=gB (hfa2▸hD.lt a.2) (Go.Cy.pow_le8 h8);have hq1:=ZpF (u:=a.2) hf1;have hq2:=ZpF (u:=a.1) hf2;obtain⟨p1,hp1⟩:∃p,p=2^a.1:=⟨_,rfl⟩;obtain⟨p2,hp2⟩:∃p,p=2^a.2:=⟨_,rfl⟩;have hb3:p1<256:=by rw[hp1];exact Ah (n:=8) (by decide) (by omega)
      have hb4:p2<256:=by rw[hp2];exact Ah (n:=8) (by decide) (by omega)
      have e1:=Zj8 a.1 (by omega);have e2:=Zj8 a.2 (by omega);rw[<-hp1]at e1 hq2;rw[<-hp2]at e2 hq1;have o1:=ZnL (a:=f1) (b:=p2) (by omega) (by omega);have o2:=ZnL (a:=f2) (b:=p1) (by omega) (by omega);have hl1:=Zo5 n (cnt l) (ZbA fm a.1 a.2) h8 hc256 (by rw[ZbA,yL,hfl]) (Go.Cy.orAt_lt hv1 hin.2 hD.lt);by_cases c2:ZdF n (cnt l) (ZbA fm a.1 a.2)=Zbn n l
      ·rw[if_pos c2]at hDs;have c2':((ZdF n (cnt l) (ZbA fm a.1 a.2):Nat):Int)=Zbn n l:=by rw[c2]
       refine kw1 kO (kc8 hp hcl @c' hx1 hx2 hs1 @ZiY (kc8 hmf hmt @qV.{0} hfl hf1 e2 o1 (kc5 hq1 @ZmV @gE.{0,0} @c2' @Zat))) (kc1 (kmc [(1000,26),(1001,77)] hl1)) ?_;refine⟨k+1,?_,eL [(900,77),(901,106)] _ _ (by refine⟨?_,?_⟩<;>(repeat' first|exact fmn|refine fmc ⟨(by first|rfl|(simp(disch:=omega) only[go_sem,simprocAttr,inL,hDs,uC,qN,yB,uX,yT,Ob.ren,ZmW,uX];first|done|omega|(congr 1;done))),?_⟩);done),?_⟩
       ·omega
       ·omega
      ·rw[if_neg c2]at hDs;have c2':¬((ZdF n (cnt l) (ZbA fm a.1 a.2):Nat):Int)=Zbn n l:=by omega
       refine kw1 kO (kc8 hp hcl @c' hx1 hx2 hs1 hs2 (kc8 @ZiY hmf hmt @qV.{0} hfl hf1 hf2 (kc8 e1 e2 o1 o2 hq1 hq2 @ZmV (kc3 @ZmW @gE.{0,0} @c2')))) (kc1 (kmc [(1000,26),(1001,77)] hl1)) ?_;refine⟨k+1,?_,eL [] _ _ (by refine⟨?_,?_⟩<;>(repeat' first|exact fmn|refine fmc ⟨(by first|rfl|(simp(disch:=omega) only[go_sem,simprocAttr,inL,hDs,Ob.ren,ZmW,uX];first|done|omega|(congr 1;done))),?_⟩);done),?_⟩
       ·omega
       ·omega
    ·have hk:k=l.length:=by omega
     subst hk;refine kw1 kO kc0 kc0 ?_;exact⟨_,rfl,Zda (o:=901) rfl rfl (by simp) (by rw[uD (by simp)];rfl),Zah rfl,trivial⟩
end Go.Proofs.YtjjbhjnpeenbkaaGreatDoor.Cyc
namespace Go.Proofs.YtjjbhjnpeenbkaaGreatDoor.Cyc
open Go Go.PS Go.Proofs
set_option maxRecDepth 100000
attribute [local irreducible] Zab wpG Zaa Zaf
open Go.Cy (NA InN)
end Go.Proofs.YtjjbhjnpeenbkaaGreatDoor.Cyc
namespace Go.Proofs.YtjjbhjnpeenbkaaGreatDoor.Cyc
open Go Go.PS Go.Proofs
open Go.Cy (NA InN Acy inC hds Kahn KahnI)
set_option maxRecDepth 100000
attribute [local irreducible] Zab wpG Zaa Zaf
end Go.Proofs.YtjjbhjnpeenbkaaGreatDoor.Cyc
namespace Go.Proofs.YtjjbhjnpeenbkaaGreatDoor.Cyc
open Go Go.PS Go.Proofs
open Go.Cy (NA InN Acy ZhT Zcs Asc)
set_option maxRecDepth 100000
attribute [local irreducible] Zab wpG Zaa Zaf
abbrev Zfa (s:List Nat):List Int:=s.map λ x:Nat=>(x:Int)
theorem ZsO {s:List Nat}{i x:Nat}(h:s[i]? =some x):(Zfa s)[i]? =some (x:Int):=by simp[h]
theorem ZuE (s:List Nat):Zac (Zfa s)=Zcj s:=by simp[Zac,Zcj,Function.comp]
theorem Zt5 (l:List NA)(t:List Nat):Zet (castA l) (Zfa t)=castA (Zcs l t):=by
 refine qL λ k=>?_
 rcases uF k l.length with h|h
 ·obtain⟨a,ha⟩:=Zad h;rw[Zid (castA_get ha),castA_get (Go.Cy.flipN_get ha)];have:Zd8 (Zfa t) (k:Int)=decide (k∈t):=by
   rw[gK];simp only[Zd8,gO,uG,uN];constructor
   ·rintro⟨x,⟨y,hy,rfl⟩,h2⟩;have:y=k:=by omega
    exact this▸hy
   ·intro hk;exact⟨_,⟨k,hk,rfl⟩,rfl⟩
  rw[this];by_cases c:k∈t
  ·simp[c,Zki]
  ·simp[c]
 ·rw[uP (by rw[ZgF,castA_len];exact h),uP (by rw[castA_len,Go.Cy.flipN_len];exact h)]
theorem Zu5 {l:List NA}{t:List Nat}(h:ZhT l t):Zfm (Zfa t) l.length=0:=by
 have key:∀k,k<=t.length->Zdm (ZfH (Zfa t) l.length) k=0:=by
  intro k
  induction k with
  |zero=>intro _;rfl
  |succ k ih=>
   intro hk;refine Zoq (ih (by omega)) ?_;obtain⟨x,hx⟩:=Zad (show k<t.length by omega);obtain⟨a,ha,hn⟩:=h.2 x (uA hx);have hxl:=(uB.1 ha).1;simp only[ZfH,ZsO hx];rw[if_neg (by omega),if_neg];simp only[Zd8,gO,uG,not_exists,not_and];rintro y hy rfl;rw[Zfa,<-Ac]at hy;obtain⟨z,hz,he⟩:=uN.1 hy;obtain⟨i,hi⟩:=jR.1 hz;rw[qC]at hi;split at hi
   ·rename_i hik;have hi2:=uB.1 hi;have hx2:=uB.1 hx;have:=(jO.1 h.1) i k hi2.1 hx2.1 hik;rw[hi2.2,hx2.2]at this;omega
   ·cases hi
 have:=key t.length (uH _);rw[Zfm,uE];exact this
end Go.Proofs.YtjjbhjnpeenbkaaGreatDoor.Cyc
namespace Go.Proofs.YtjjbhjnpeenbkaaGreatDoor.Cyc
open Go Go.PS Go.Proofs
open Go.Cy (NA InN cnt ZeO Zcd Zbn Zdn Zcs ZhT Asc)
set_option maxRecDepth 100000
attribute [local irreducible] Zab wpG Zaa Zaf
theorem Zn0 (n:Nat)(c:Nat->Nat->Nat)(z:Nat)(l:List NA):∀k,k<=l.length->Asc (Zcd n c z l k).2/\∀i,i∈(Zcd n c z l k).2->i<k/\∃a,l[i]? =some a/\a.1≠a.2:=by
 intro k
 induction k with
 |zero=>intro _;exact⟨List.Pairwise.nil,λ i hi=>by cases hi⟩
 |succ k ih=>
  intro hk;obtain⟨h1,h2⟩:=ih (by omega);obtain⟨a,ha⟩:=Zad (show k<l.length by omega);rw[Zcd,ha];dsimp only;rw[ZeO];have h3:∀i,i∈(Zcd n c z l k).2->i<k+1/\∃a,l[i]? =some a/\a.1≠a.2:=λ i hi=>⟨by have:=(h2 i hi).1;omega,(h2 i hi).2⟩
  by_cases e:a.1=a.2
  ·rw[if_pos e];exact⟨h1,h3⟩
  ·rw[if_neg e];split
   ·refine⟨?_,λ i hi=>?_⟩
    ·refine yX.2 ⟨h1,jY _ _,λ x hx y hy=>?_⟩;rw[uR]at hy;have:=(h2 x hx).1;omega
    ·rcases yN.1 hi with hi|hi
     ·exact h3 i hi
     ·rw[uR]at hi;subst hi;exact⟨by omega,a,ha,e⟩
   ·exact⟨h1,h3⟩
theorem Zu1 (n:Nat)(l:List NA):ZhT l (Zdn n l):=
 ⟨(Zn0 n (cnt l) (Zbn n l) l l.length (uH _)).1,λ i hi=>((Zn0 n (cnt l) (Zbn n l) l l.length (uH _)).2 i hi).2⟩
theorem Zt3 {n:Nat}{l:List NA}{t:List Nat}(h:gOk ((n:Int),castA l)=true)(ht:ZhT l t):Zaa Tryz.prog 158 [gD ((n:Int),castA l),Zcj t] (.tup [gD ((n:Int),castA (Zcs l t)), .int 0]):=by
 have hF:=Zry ((n:Int),castA l) (Zfa t);have eF:ZeT ((n:Int),castA l) (Zfa t)=(((n:Int),castA (Zcs l t)),0):=by
  have h2:=Zu5 ht;rw[ZeT,if_pos h];simp only[castA_len,h2,if_true,Zt5]
 rw[eF,ZuE]at hF;exact hF
theorem Break8 (n:Nat)(l:List NA)(h:gOk ((n:Int),castA l)=true)(hi:InN n l)(hll:l.length<=256)(h8:n<=8):Zaa Tryz.prog 94 [gD ((n:Int),castA l)] (.tup [Zcj (Zdn n l),gD ((n:Int),castA (Zcs l (Zdn n l)))]):=by
 have hF:=Zt3 h (Zu1 n l);have hl:=Zrz n l h hi hll h8;refine kE Tryz.func94 ?_;intro hat B X w0;refine kw1 kO kc0 (kc2 hl hF) ?_;refine⟨_,rfl,?_,⟨_,_,_,_,rfl,?_⟩,trivial⟩
 ·rfl
 ·simp(disch:=omega) only[go_sem,simprocAttr]
end Go.Proofs.YtjjbhjnpeenbkaaGreatDoor.Cyc
namespace Go.Proofs.YtjjbhjnpeenbkaaGreatDoor.Gr
open Go Go.PS Go.Proofs Go.Proofs.YtjjbhjnpeenbkaaGreatDoor
set_option maxRecDepth 100000
attribute [local irreducible] Zab wpG Zaa Zaf
structure Opt where
 md:Int
 nsep:Int
 rsep:Int
 mg:Int
 rd:Int
abbrev Zfo (o:Opt):D:= .ag [.int o.md, .int o.nsep, .int o.rsep, .int o.mg, .int o.rd]
def ZfJ (m x:Int):Bool:=decide (0<=x)&&decide (x<=m)
def okO (o:Opt):Bool:=ZfJ 4 o.md&&(ZfJ 1048576 o.nsep&&(ZfJ 1048576 o.rsep&&(ZfJ 1048576 o.mg&&(ZfJ 100 o.rd))))
theorem Zh1 (m x:Int)(hm:0<=m):decide (x=if m<(if x<0 then 0 else x)then m else(if x<0 then 0 else x))=ZfJ m x:=by
 rw[gK];simp only[ZfJ,uG,uO];split<;>split<;>omega
theorem ZlW (o:Opt):Zaa Tryz.prog 46 [Zfo o] (.bool (okO o)):=by
 have e1:=Zh1 4 o.md (by decide);have e2:=Zh1 1048576 o.nsep (by decide);have e3:=Zh1 1048576 o.rsep (by decide);have e4:=Zh1 1048576 o.mg (by decide);have e5:=Zh1 100 o.rd (by decide);refine kE Tryz.func46 ?_;intro hat B X w0;refine kw1 kO (kc5 e1 e2 e3 e4 e5) kc0 ?_;exact Zaj (by simp only[okO,Bool.and_true])
def ZhE (g:Gph):Gr:=((g.ns.length:Int),g.es.map λ e=>(e.fr,e.to))
def ZdS (g:Gph)(k:Nat):List Arc:=(g.es.take k).map λ e=>(e.fr,e.to)
theorem Zzk {g:Gph}{k:Nat}{e:Ed}(h:g.es[k]? =some e):ZdS g (k+1)=ZdS g k++[(e.fr,e.to)]:=by
 rw[ZdS,ZdS,ZaD h,yB];rfl
theorem Zzi (g:Gph):ZdS g g.es.length=(ZhE g).2:=by rw[ZdS,yI,ZhE]
theorem Zzj (g:Gph){k:Nat}(h:k<=g.es.length):(ZdS g k).length=k:=by rw[ZdS,uE,uS];omega
theorem ZyD (g:Gph)(hl:g.es.length<=1000000):Zaa Tryz.prog 95 [ZbS g] (gD (ZhE g)):=by
 refine kE Tryz.func95 ?_;intro hat B X w0;refine kw1 kO kc0 kc0 ?_;refine Zau _ (Zcr 3 1 901 2 rfl rfl rfl) ?_;refine Zai (λ(k:Nat)=>k<=g.es.length) (λ k=>[(2, .ptr 2 0 0 0),(3, .ptr 3 0 0 0),(11, .d (.sl (g.es.map edD))),(12, .int g.es.length),(13, .int k)]) (λ k=>[(2, .cells [.int 0, .nilS]),(3, .cells [.int g.ns.length, .ref 901 2 0 (ZdS g k).length (ZdS g k).length]),(901, .row 2 ((ZdS g k).map ZaY))]) (λ k=>g.es.length-k) 0 ?_ ?_ ?_
 ·exact uJ _
 ·exact kN kc0 []
 ·intro k hk;have hln:=Zzj g hk;rcases uF k g.es.length with hlt|hge
  ·obtain⟨e,he⟩:=Zad hlt;have hs:=Zzk he;have htk:((ZdS g k).map ZaY).take k=(ZdS g k).map ZaY:=uD (by simp[hln]);refine kw1 kO (kc3 he htk hln) kc0 ?_;refine⟨k+1,?_,eL [(901,25)] _ _ (by refine⟨?_,?_⟩<;>(repeat' first|exact fmn|refine fmc ⟨(by first|rfl|(simp(disch:=omega) only[go_sem,simprocAttr,inL,hs,uC,qN,yB,uX,yT,hln];first|done|omega|(congr 1;done))),?_⟩);done),?_⟩
   ·exact hlt
   ·omega
  ·obtain rfl:k=g.es.length:=by omega
   refine kw1 kO kc0 kc0 ?_;refine⟨_,_,_,_,rfl,?_⟩;simp(disch:=omega) only[go_sem,simprocAttr];rw[Zzi,Zat];rfl
open Go.Cy (NA InN Zdn Zcs)
def naF (g:Gph):List NA:=g.es.map λ e=>(e.fr.toNat,e.to.toNat)
def Zbz (g:Gph):List NA:=Zcs (naF g) (Zdn g.ns.length (naF g))
theorem Zg8 (g:Gph):(Zbz g).length=g.es.length:=by rw[Zbz,Go.Cy.flipN_len,naF,uE]
structure Zby (g:Gph):Prop where
 md:Mod g
 ok:Zdx g=0
 n8:g.ns.length<=8
theorem Zgn {g:Gph}(h:Zdx g=0):g.es.length<=256/\fe (ZfW g) g.ns.length=0/\fe (ZgC g) g.es.length=0:=by
 rw[Zdx]at h;split at h
 ·cases h
 ·split at h
  ·cases h
  ·split at h
   ·contradiction
   ·rename_i h1;split at h
    ·contradiction
    ·exact⟨by omega,by omega,h⟩
theorem Zk8 {g:Gph}(h:Zdx g=0){k:Nat}{e:Ed}(he:g.es[k]? =some e):0<=e.fr/\e.fr<g.ns.length/\0<=e.to/\e.to<g.ns.length/\1<=e.wt/\e.wt<=1000/\1<=e.ln/\e.ln<=64:=by
 have h1:=Zom (Zgn h).2.2 k (uB.1 he).1;rw[ZgC,he]at h1;dsimp only at h1;rw[Zhf]at h1;split at h1
 ·cases h1
 ·split at h1
  ·contradiction
  ·split at h1
   ·cases h1
   ·omega
theorem ZyB {g:Gph}(h:Zdx g=0):ZhE g=((g.ns.length:Int),Cyc.castA (naF g)):=by
 rw[ZhE,Cyc.castA,naF,gN]
 congr 1
 refine yE λ e he=>?_
 obtain⟨k,hk⟩:=jR.1 he;obtain⟨h1,_,h2,_⟩:=Zk8 h hk;simp only[Function.comp];rw[show((e.fr.toNat:Nat):Int)=e.fr by omega,show((e.to.toNat:Nat):Int)=e.to by omega]
theorem ZlJ {g:Gph}(h:Zdx g=0):InN g.ns.length (naF g):=by
 intro a ha;obtain⟨e,he,rfl⟩:=uN.1 ha;obtain⟨k,hk⟩:=jR.1 he;obtain⟨h1,h2,h3,h4,_⟩:=Zk8 h hk;dsimp only;omega
theorem ZyC {g:Gph}(hs:Zby g):gOk ((g.ns.length:Int),Cyc.castA (naF g))=true:=by
 have h1:=(Zgn hs.ok).1;have h2:=hs.n8;simp only[gOk,uO,uG,yK,qU];refine⟨⟨by omega,by omega,by rw[Cyc.castA_len,naF,uE];omega⟩,?_⟩;intro a ha;obtain⟨b,hb,rfl⟩:=uN.1 ha;have:=ZlJ hs.ok b hb;simp[Ze8];omega
theorem ZsG {g:Gph}(h:Zdx g=0):InN g.ns.length (Zbz g):=by
 intro a ha;obtain⟨k,b,hk,rfl⟩:=Go.Cy.flipN_mem ha;have:=ZlJ h b (uA hk);split
 ·dsimp only;omega
 ·exact this
theorem ZsF {g:Gph}(hs:Zby g):∃s:D,Zaa Tryz.prog 94 [gD (ZhE g)] (.tup [s,gD ((g.ns.length:Int),Cyc.castA (Zbz g))]):=by
 have h:=Cyc.Break8 g.ns.length (naF g) (ZyC hs) (ZlJ hs.ok) (by rw[naF,uE];exact(Zgn hs.ok).1) hs.n8;rw[ZyB hs.ok];exact⟨_,h⟩
def ZeX (l:List NA)(i:Nat):Bool:=match l[i]? with
 |some a=>decide (a.1≠a.2)
 |none=>false
def ksF (l:List NA)(k:Nat):List Nat:=(List.range k).filter (ZeX l)
def ZhW (l:List NA)(i:Nat):Arc:=match l[i]? with
 |some a=>((a.1:Int),(a.2:Int))
 |none=>(0,0)
def Zbj (l:List NA)(k:Nat):List Arc:=(ksF l k).map (ZhW l)
def Zbk (l:List NA)(k:Nat):List Int:=(ksF l k).map λ(i:Nat)=>(i:Int)
theorem ZjF {l:List NA}{k:Nat}:ksF l (k+1)=ksF l k++if ZeX l k then[k]else[]:=by
 rw[ksF,ksF,gG,gX];cases h:ZeX l k<;>simp[h]
theorem Zhp (l:List NA)(k:Nat):(ksF l k).length<=k:=by
 have:=jS (ZeX l) (List.range k);rw[kS]at this;exact this
theorem ZjE {l:List NA}{k i:Nat}(h:i∈ksF l k):i<k/\ZeX l i=true:=by
 rw[ksF,Aa,yD]at h;exact h
abbrev Zl6 (n:Nat)(l:List NA):D:= .ag [.int n,Zak (Zbj l l.length),Zac (Zbk l l.length)]
theorem ZkE {g:Gph}(hs:Zby g):Zaa Tryz.prog 47 [ZbS g] (Zl6 g.ns.length (Zbz g)):=by
 obtain⟨h256,_,_⟩:=Zgn hs.ok;have h1:=ZyD g (by omega);obtain⟨s,h2⟩:=ZsF hs;have hbl:=Zg8 g;generalize Zbz g=l at*;have hcl:(Cyc.castA l).length=l.length:=Cyc.castA_len l;refine kE Tryz.func47 ?_;intro hat B X w0;refine kw1 kO (kc1 hcl) (kc2 h1 h2) ?_;refine Zau _ (Zcr 5 1 901 2 rfl rfl rfl) ?_;refine Zau _ (Zcr 5 2 902 1 rfl rfl rfl) ?_;refine Zai (λ(k:Nat)=>k<=l.length) (λ k=>[(2, .ptr 2 0 0 0),(5, .ptr 5 0 0 0),(20, .d (Zak (Cyc.castA l))),(21, .int l.length),(22, .int k)]) (λ k=>[(2, .cells [.int 0, .nilS, .nilS]),(5, .cells [.int g.ns.length, .ref 901 2 0 (Zbj l k).length (Zbj l k).length, .ref 902 1 0 (Zbk l k).length (Zbk l k).length]),(901, .row 2 ((Zbj l k).map ZaY)),(902, .row 1 ((Zbk l k).map D.int))]) (λ k=>l.length-k) 0 ?_ ?_ ?_
 ·exact uJ _
 ·exact eL [] _ _ (by refine⟨?_,?_⟩<;>(repeat' first|exact fmn|refine fmc ⟨(by first|rfl|(simp(disch:=omega) only[go_sem,simprocAttr,inL,Zbj,Zbk,ksF,kC,zK,yT,uY];first|done|omega|(congr 1;done))),?_⟩);done)
 ·intro k hk;have hlk:=Zhp l k;have hl1:(Zbj l k).length<=256:=by rw[Zbj,uE];omega
  have hl2:(Zbk l k).length<=256:=by rw[Zbk,uE];omega
  rcases uF k l.length with hlt|hge
  ·obtain⟨a,ha⟩:=Zad hlt;have hp:(Cyc.castA l)[k]? =some ((a.1:Int),(a.2:Int)):=Cyc.castA_get ha;by_cases c:a.1=a.2
   ·have c':(a.1:Int)=a.2:=by omega
    have hn:ZeX l k=false:=by rw[ZeX,ha];simp[c]
    have e1:Zbj l (k+1)=Zbj l k:=by rw[Zbj,Zbj,ZjF,hn];simp
    have e2:Zbk l (k+1)=Zbk l k:=by rw[Zbk,Zbk,ZjF,hn];simp
    refine kw1 kO (kc3 hp hcl @c') kc0 ?_;refine⟨k+1,?_,kN (kc2 e1 e2) [],?_⟩
    ·exact hlt
    ·omega
   ·have c':¬(a.1:Int)=a.2:=by omega
    have hn:ZeX l k=true:=by rw[ZeX,ha];simp[c]
    have e1:Zbj l (k+1)=Zbj l k++[((a.1:Int),(a.2:Int))]:=by rw[Zbj,Zbj,ZjF,hn];simp[ZhW,ha]
    have e2:Zbk l (k+1)=Zbk l k++[(k:Int)]:=by rw[Zbk,Zbk,ZjF,hn];simp
    refine kw1 kO (kc4 hp hcl @c' @Zat) kc0 ?_;refine⟨k+1,?_,kN (kc7 e1 e2 @uC.{0} @qN.{0} @yB.{0,0} @uX.{0,0} @yT.{0,0}) [(901,37),(902,44)],?_⟩
    ·exact hlt
    ·omega
  ·obtain rfl:k=l.length:=by omega
   refine kw1 kO kc0 kc0 ?_;refine⟨_,_,_,_,rfl,?_⟩;simp(disch:=omega) only[go_sem,simprocAttr];rw[Zat,Zat]
def Zjf (g:Gph)(l:List NA)(i:Nat):Sx.Bd:=match l[i]?,g.es[i]? with
 |some a,some e=>((a.1:Int),(a.2:Int),e.ln,e.wt)
 |_,_=>(0,0,0,0)
def Zbe (g:Gph)(l:List NA)(k:Nat):List Sx.Bd:=((ksF l l.length).take k).map (Zjf g l)
def ZbW (g:Gph):Sx.Net:=((g.ns.length:Int),Zbe g (Zbz g) (ksF (Zbz g) (Zbz g).length).length)
theorem Zg6 {g:Gph}{l:List NA}{k:Nat}(h:k<=(ksF l l.length).length):(Zbe g l k).length=k:=by
 rw[Zbe,uE,uS];omega
theorem Zqb {g:Gph}(hs:Zby g){r f:List Int}(hS:Sx.SolveOk (ZbW g) r f):Zaa Tryz.prog 48 [Zl6 g.ns.length (Zbz g),ZbS g] (.tup [Zac r,Zac f, .int 0]):=by
 obtain⟨n',hn',hr',hf',hS⟩:=hS;obtain⟨h256,_,_⟩:=Zgn hs.ok;have hbl:=Zg8 g;simp only[ZbW]at hn' hf' hS;generalize Zbz g=l at*;have hlk:=Zhp l l.length;have hlb:=Zg6 (g:=g) (l:=l) (uH _);rw[hlb]at hf' hS;obtain rfl:n'=g.ns.length:=by omega
 have hpl:(Zbj l l.length).length=(ksF l l.length).length:=by rw[Zbj,uE]
 have hel:(Zbk l l.length).length=(ksF l l.length).length:=by rw[Zbk,uE]
 refine kE Tryz.func48 ?_;intro hat B X w0;refine kw1 kO (kc1 hpl) kc0 ?_;refine Zau _ (Zcr 7 1 901 4 rfl rfl rfl) ?_;refine Zai (λ(k:Nat)=>k<=(ksF l l.length).length) (λ k=>[(2, .ptr 2 0 0 0),(3, .ptr 3 0 0 0),(7, .ptr 7 0 0 0),(17, .d (Zak (Zbj l l.length))),(18, .int (ksF l l.length).length),(19, .int k)]) (λ k=>[(2, .cells [.int g.ns.length, .d (Zak (Zbj l l.length)), .d (Zac (Zbk l l.length))]),(3, .cells [.d (Zbd g.nm), .d (.bool g.dir), .d (.sl (g.ns.map ndD)), .d (.sl (g.es.map edD)), .d (.sl (g.cs.map clD))]),(7, .cells [.int g.ns.length, .ref 901 4 0 (Zbe g l k).length (Zbe g l k).length]),(901, .row 4 ((Zbe g l k).map Sx.bdD))]) (λ k=>(ksF l l.length).length-k) 0 ?_ ?_ ?_
 ·exact uJ _
 ·exact kN (kc4 @Zbe.eq_1 @yY.{0} @yT.{0,0} @uY.{0}) []
 ·intro k hk;have hl1:=Zg6 (g:=g) hk;rcases uF k (ksF l l.length).length with hlt|hge
  ·obtain⟨i,hi⟩:=Zad hlt;obtain⟨q1,q2⟩:=ZjE (uA hi);obtain⟨a,ha⟩:=Zad q1;obtain⟨e,he⟩:=Zad (l:=g.es) (k:=i) (by omega);have p1:(Zbj l l.length)[k]? =some ((a.1:Int),(a.2:Int)):=by rw[Zbj,uI,hi];simp[ZhW,ha]
   have p2:(Zbk l l.length)[k]? =some (i:Int):=by rw[Zbk,uI,hi];rfl
   have e1:Zbe g l (k+1)=Zbe g l k++[((a.1:Int),(a.2:Int),e.ln,e.wt)]:=by
    rw[Zbe,Zbe,ZaD hi,yB];simp[Zjf,ha,he]
   have htk:((Zbe g l k).map Sx.bdD).take k=(Zbe g l k).map Sx.bdD:=uD (by simp[hl1]);refine kw1 kO (kc7 p1 p2 he hpl hel hl1 htk) kc0 ?_;refine⟨k+1,?_,kN (kc7 e1 @uC.{0} @qN.{0} @yB.{0,0} @uX.{0,0} @yT.{0,0} hl1) [(901,45)],?_⟩
   ·exact hlt
   ·omega
  ·obtain rfl:k=(ksF l l.length).length:=by omega
   refine Zau _ (Zc2 901 4 ((Zbe g l (ksF l l.length).length).map Sx.bdD) rfl (ZcP _ rfl) (by decide)) ?_;have htk0:((Zbe g l (ksF l l.length).length).map Sx.bdD).take (ksF l l.length).length=(Zbe g l (ksF l l.length).length).map Sx.bdD:=uD (by simp[hl1]);refine kw1 kO (kc3 htk0 @qS.{0} hl1) (kc1 (kmc [(2000,950),(2001,951)] hS)) ?_;exact⟨_,rfl,Zda (o:=950) rfl rfl (by simp[Sx.intsL,hr']) (by rw[uD (by simp[Sx.intsL,hr'])]),Zda (o:=951) rfl rfl (by simp[Sx.intsL,hf']) (by rw[uD (by simp[Sx.intsL,hf'])]),Zah rfl,trivial⟩
theorem ZwQ {g:Gph}(hs:Zby g){e:Int}(hS:Sx.SolveNo (ZbW g) e):Zaa Tryz.prog 48 [Zl6 g.ns.length (Zbz g),ZbS g] (.tup [.sl [], .sl [], .int e]):=by
 unfold Sx.SolveNo at hS;obtain⟨h256,_,_⟩:=Zgn hs.ok;have hbl:=Zg8 g;simp only[ZbW]at hS;generalize Zbz g=l at*;have hlk:=Zhp l l.length;have hlb:=Zg6 (g:=g) (l:=l) (uH _);have hpl:(Zbj l l.length).length=(ksF l l.length).length:=by rw[Zbj,uE]
 have hel:(Zbk l l.length).length=(ksF l l.length).length:=by rw[Zbk,uE]
 refine kE Tryz.func48 ?_;intro hat B X w0;refine kw1 kO (kc1 hpl) kc0 ?_;refine Zau _ (Zcr 7 1 901 4 rfl rfl rfl) ?_;refine Zai (λ(k:Nat)=>k<=(ksF l l.length).length) (λ k=>[(2, .ptr 2 0 0 0),(3, .ptr 3 0 0 0),(7, .ptr 7 0 0 0),(17, .d (Zak (Zbj l l.length))),(18, .int (ksF l l.length).length),(19, .int k)]) (λ k=>[(2, .cells [.int g.ns.length, .d (Zak (Zbj l l.length)), .d (Zac (Zbk l l.length))]),(3, .cells [.d (Zbd g.nm), .d (.bool g.dir), .d (.sl (g.ns.map ndD)), .d (.sl (g.es.map edD)), .d (.sl (g.cs.map clD))]),(7, .cells [.int g.ns.length, .ref 901 4 0 (Zbe g l k).length (Zbe g l k).length]),(901, .row 4 ((Zbe g l k).map Sx.bdD))]) (λ k=>(ksF l l.length).length-k) 0 ?_ ?_ ?_
 ·exact uJ _
 ·exact kN (kc4 @Zbe.eq_1 @yY.{0} @yT.{0,0} @uY.{0}) []
 ·intro k hk;have hl1:=Zg6 (g:=g) hk;rcases uF k (ksF l l.length).length with hlt|hge
  ·obtain⟨i,hi⟩:=Zad hlt;obtain⟨q1,q2⟩:=ZjE (uA hi);obtain⟨a,ha⟩:=Zad q1;obtain⟨e,he⟩:=Zad (l:=g.es) (k:=i) (by omega);have p1:(Zbj l l.length)[k]? =some ((a.1:Int),(a.2:Int)):=by rw[Zbj,uI,hi];simp[ZhW,ha]
   have p2:(Zbk l l.length)[k]? =some (i:Int):=by rw[Zbk,uI,hi];rfl
   have e1:Zbe g l (k+1)=Zbe g l k++[((a.1:Int),(a.2:Int),e.ln,e.wt)]:=by
    rw[Zbe,Zbe,ZaD hi,yB];simp[Zjf,ha,he]
   have htk:((Zbe g l k).map Sx.bdD).take k=(Zbe g l k).map Sx.bdD:=uD (by simp[hl1]);refine kw1 kO (kc7 p1 p2 he hpl hel hl1 htk) kc0 ?_;refine⟨k+1,?_,kN (kc7 e1 @uC.{0} @qN.{0} @yB.{0,0} @uX.{0,0} @yT.{0,0} hl1) [(901,45)],?_⟩
   ·exact hlt
   ·omega
  ·obtain rfl:k=(ksF l l.length).length:=by omega
   refine Zau _ (Zc2 901 4 ((Zbe g l (ksF l l.length).length).map Sx.bdD) rfl (ZcP _ rfl) (by decide)) ?_;have htk0:((Zbe g l (ksF l l.length).length).map Sx.bdD).take (ksF l l.length).length=(Zbe g l (ksF l l.length).length).map Sx.bdD:=uD (by simp[hl1]);refine kw1 kO (kc3 htk0 @qS.{0} hl1) (kc1 (kmc [(2000,950),(2001,951)] hS)) ?_;exact⟨_,rfl,rfl,rfl,Zah rfl,trivial⟩
theorem ZqA (a b:List Int):Zaa Tryz.prog 31 [Zac a,Zac b] (.bool (decide (a=b))):=by
 refine kE Tryz.func31 ?_;intro hat B X w0;have hl:=Zbb 0 hat rfl;rw[uE]at hl;by_cases hab:a.length=b.length
 ·have hab':(a.length:Int)=b.length:=by omega
  refine kw1 kO (kc1 @hab') kc0 ?_;refine Zai (λ(k:Nat)=>k<=a.length/\a.take k=b.take k) (λ k=>[(0, .d (Zac a)),(1, .d (Zac b)),(5, .int k)]) (λ k=>[]) (λ k=>a.length-k) 0 ?_ ?_ ?_
  ·exact⟨uJ _,rfl⟩
  ·exact kN kc0 []
  ·rintro k ⟨hk,hinv⟩;rcases uF k a.length with hlt|hge
   ·obtain⟨x,hx⟩:=Zad hlt;obtain⟨y,hy⟩:=Zad (l:=b) (k:=k) (by omega);by_cases c:x=y
    ·subst c;refine kw1 kO (kc2 hx hy) kc0 ?_;refine⟨k+1,?_,kN kc0 [],?_⟩
     ·exact⟨hlt,by rw[ZaD hx,ZaD hy,hinv]⟩
     ·omega
    ·refine kw1 kO (kc3 hx hy c) kc0 ?_;exact Zaj (by rw[yC (Zgm hx hy c)])
   ·refine kw1 kO kc0 kc0 ?_;refine Zaj ?_;rw[uD hge,uD (by omega)]at hinv;rw[yM hinv]
 ·have hab':¬(a.length:Int)=b.length:=by omega
  refine kw1 kO (kc1 @hab') kc0 ?_;exact Zaj (by rw[yC (λ h=>hab (by rw[h]))])
def Zel (m:Nat)(ks:List Nat)(f:List Int):Nat->List Int
 |0=>List.replicate m 0
 |k+1=>(Zel m ks f k).set (ks[k]?.getD 0) (f[k]?.getD 0)
theorem ZrY (m:Nat)(ks:List Nat)(f:List Int):∀k,(Zel m ks f k).length=m:=by
 intro k
 induction k with
 |zero=>simp[Zel]
 |succ k ih=>rw[Zel,yL,ih]
def Zi8 (g:Gph)(f:List Int):List Int:=Zel g.es.length (ksF (Zbz g) (Zbz g).length) f (ksF (Zbz g) (Zbz g).length).length
theorem ZrM {g:Gph}(hs:Zby g){r f:List Int}(hS:Sx.SolveOk (ZbW g) r f):Zaa Tryz.prog 29 [ZbS g] (.tup [Zac r,Zac (Zi8 g f), .int 0]):=by
 have h1:=Zig g hs.md;rw[hs.ok]at h1;have h2:=ZkE hs;have h3:=Zqb hs hS;obtain⟨n',hn',hr',hf',_⟩:=hS;obtain⟨h256,_,_⟩:=Zgn hs.ok;have hbl:=Zg8 g;rw[Zi8];simp only[ZbW]at hf';rw[Zg6 (uH _)]at hf';generalize Zbz g=l at*;have hlk:=Zhp l l.length;have hel:(Zbk l l.length).length=(ksF l l.length).length:=by rw[Zbk,uE]
 refine kE Tryz.func29 ?_;intro hat B X w0;refine kw1 kO (kc1 hel) (kc3 h1 h2 h3) ?_;refine Zai (λ(k:Nat)=>k<=(ksF l l.length).length) (λ k=>[(7, .d (Zac r)),(8, .d (Zac f)),(10, .ref 33 1 0 g.es.length g.es.length),(35, .d (Zac (Zbk l l.length))),(36, .int (ksF l l.length).length),(37, .int k)]) (λ k=>[(33, .row 1 ((Zel g.es.length (ksF l l.length) f k).map D.int))]) (λ k=>(ksF l l.length).length-k) 0 ?_ ?_ ?_
 ·exact uJ _
 ·exact kN (kc2 @Zel.eq_1 @zI.{0,0}) []
 ·intro k hk;have hal:=ZrY g.es.length (ksF l l.length) f k;rcases uF k (ksF l l.length).length with hlt|hge
  ·obtain⟨i,hi⟩:=Zad hlt;obtain⟨x,hx⟩:=Zad (l:=f) (k:=k) (by omega);obtain⟨q1,q2⟩:=ZjE (uA hi);have p2:(Zbk l l.length)[k]? =some (i:Int):=by rw[Zbk,uI,hi];rfl
   obtain⟨y,hy⟩:=Zad (l:=Zel g.es.length (ksF l l.length) f k) (k:=i) (by omega);have e1:Zel g.es.length (ksF l l.length) f (k+1)=(Zel g.es.length (ksF l l.length) f k).set i x:=by rw[Zel,hi,hx];rfl
   refine kw1 kO (kc5 p2 hel hx hy hal) kc0 ?_;refine⟨k+1,?_,kN (kc2 e1 @yR.{0,0}) [],?_⟩
   ·exact hlt
   ·omega
  ·obtain rfl:k=(ksF l l.length).length:=by omega
   refine kw1 kO kc0 kc0 ?_;exact⟨_,rfl,rfl,Zda (o:=33) rfl rfl (by simp[hal]) (by rw[uD (by simp[hal])]),Zah rfl,trivial⟩
abbrev Zlb (c:UInt8):Nd:=⟨⟨#[c]⟩,⟨#[97]⟩,20000,10000,-1,[]⟩
abbrev Zok (t:Int):Ed:=⟨0,t,-1,-1,⟨#[]⟩,1,1⟩
abbrev Zff :Gph:=⟨⟨#[103]⟩,true,[Zlb 97,Zlb 98,Zlb 99],[Zok 1,Zok 2],[]⟩
theorem ZtI :Mod Zff:=by
 refine⟨by decide,λ n hn=>?_,λ e he=>?_,λ c hc=>by cases hc⟩
 ·simp only[yH,kI,or_false]at hn;rcases hn with rfl|rfl|rfl<;>exact⟨by decide,by decide,λ p hp=>by cases hp⟩
 ·simp only[yH,kI,or_false]at he;rcases he with rfl|rfl<;>decide
theorem ZtK :Zdx Zff=0:=by decide+kernel
theorem ZtM :Zby Zff:=⟨ZtI,ZtK,by decide⟩
theorem Zol :Zbz Zff=[(0,1),(0,2)]:=by decide+kernel
theorem ZtJ :ZbW Zff=(3,[(0,1,1,1),(0,2,1,1)]):=by rw[ZbW,Zol];decide+kernel
theorem ZtN :Sx.SolveOk (ZbW Zff) [0,1,1] [1,1]:=by
 rw[ZtJ];exact Sx.solve_of 3 _ 10 _ _ (by decide+kernel) (by decide+kernel) (by decide+kernel) (by decide+kernel) (by decide+kernel) (by decide+kernel)
theorem ZtL :Zaa Tryz.prog 29 [ZbS Zff] (.tup [Zac [0,1,1],Zac [1,1], .int 0]):=by
 have h:=ZrM ZtM ZtN;rw[show Zi8 Zff [1,1]=[1,1] by rw[Zi8,Zol];decide+kernel]at h;exact h
theorem ZtO :Zaa Tryz.prog 44 [] (ZbS Zff):=by
 refine kE Tryz.func44 ?_;intro hat B X w0;refine kw1 (kow (Nat.beq 7) (b:=true)) kc0 kc0 ?_;refine⟨_,_,_,_,rfl,?_⟩;simp(disch:=omega) only[go_sem,simprocAttr];rfl
theorem ZwR :Zaa Tryz.prog 12 [] (.bool true):=by
 have h1:=ZtO;have h2:=ZtL;have h3:=ZqA [0,1,1] [0,1,1];rw[yM rfl]at h3;refine kE Tryz.func12 ?_;intro hat B X w0;refine kw1 kO kc0 (kc3 h1 h2 h3) ?_;exact Zaj rfl
end Go.Proofs.YtjjbhjnpeenbkaaGreatDoor.Gr
namespace Go.Proofs.YtjjbhjnpeenbkaaGreatDoor.Gr
open Go Go.PS Go.Proofs Go.Proofs.YtjjbhjnpeenbkaaGreatDoor
set_option maxRecDepth 100000
attribute [local irreducible] Zab wpG Zaa Zaf
theorem Zg3 {α:Type}{q:α->Bool}{l:List α}{k:Nat}{x:α}(h:l[k]? =some x)(hq:q x=false):l.all q=false:=by
 rw[List.all_eq_false];exact⟨x,uA h,by rw[hq];decide⟩
theorem Zjb {α:Type}{q:α->Bool}{l:List α}{k:Nat}(hk:l.length<=k)(h:∀(j:Nat) y,j<k->l[j]? =some y->q y=true):l.all q=true:=by
 rw[uW];intro x hx;obtain⟨j,hj⟩:=jR.1 hx;exact h j x (by have:=(uB.1 hj).1;omega) hj
def ptF (p:Pt):Bool:=decide (p.nm.size<=40)
def ndF (n:Nd):Bool:=decide (n.nm.size<=40/\n.lb.size<=80/\n.ps.length<=9)&&n.ps.all ptF
def edF (e:Ed):Bool:=decide (e.lb.size<=80/\e.ln<=4)
def clF (c:Cl):Bool:=decide (c.nm.size<=40)
def Zfg (g:Gph)(n m:Nat):Bool:=decide (g.ns.length<=n/\g.es.length<=m/\g.cs.length<=6/\g.nm.size<=40)&&(g.ns.all ndF&&(g.es.all edF&&g.cs.all clF))
theorem ZtP (g:Gph)(n m:Nat)(hn:n<=100)(hm:m<=100):Zaa Tryz.prog 11 [ZbS g, .int n, .int m] (.bool (Zfg g n m)):=by
 by_cases c0:g.ns.length<=n/\g.es.length<=m/\g.cs.length<=6/\g.nm.size<=40
 ·obtain⟨a1,a2,a3,a4⟩:=c0;rw[Zfg,yM ⟨a1,a2,a3,a4⟩,kK];have b1:¬(n:Int)<g.ns.length:=by omega
  have b2:¬(m:Int)<g.es.length:=by omega
  have b3:¬(6:Int)<g.cs.length:=by omega
  have b4:¬(40:Int)<g.nm.size:=by omega
  refine kE Tryz.func11 ?_;intro hat B X w0;refine kw1 kO (kc4 b1 b2 b3 b4) kc0 ?_;refine Zai (λ(k:Nat)=>k<=g.ns.length/\∀(j:Nat) y,j<k->g.ns[j]? =some y->ndF y=true) (λ k=>[(3, .ptr 3 0 0 0),(7, .int k)]) (λ k=>[(3, .cells [.d (Zbd g.nm), .d (.bool g.dir), .d (.sl (g.ns.map ndD)), .d (.sl (g.es.map edD)), .d (.sl (g.cs.map clD))])]) (λ k=>g.ns.length-k) 0 ?_ ?_ ?_
  ·exact⟨uJ _,λ j y h=>by omega⟩
  ·exact kN kc0 []
  ·rintro k ⟨hk,hinv⟩;rcases uF k g.ns.length with hlt|hge
   ·obtain⟨x,hx⟩:=Zad hlt;by_cases c1:x.nm.size<=40/\x.lb.size<=80/\x.ps.length<=9
    ·obtain⟨d1,d2,d3⟩:=c1;have f1:¬(40:Int)<x.nm.size:=by omega
     have f2:¬(80:Int)<x.lb.size:=by omega
     have f3:¬(9:Int)<x.ps.length:=by omega
     have hx2:ndF x=x.ps.all ptF:=by rw[ndF,yM ⟨d1,d2,d3⟩,kK]
     refine kw1 kO (kc4 hx f1 f2 f3) kc0 ?_;refine Zai (λ(j:Nat)=>j<=x.ps.length/\∀(i:Nat) y,i<j->x.ps[i]? =some y->ptF y=true) (λ j=>[(3, .ptr 3 0 0 0),(7, .int k),(8, .ptr 8 0 0 0),(9, .int j)]) (λ j=>[(3, .cells [.d (Zbd g.nm), .d (.bool g.dir), .d (.sl (g.ns.map ndD)), .d (.sl (g.es.map edD)), .d (.sl (g.cs.map clD))]),(8, .cells [.d (Zbd x.nm), .d (Zbd x.lb), .int x.w, .int x.h, .int x.cl, .d (.sl (x.ps.map ptD))])]) (λ j=>x.ps.length-j) 0 ?_ ?_ ?_
     ·exact⟨uJ _,λ j y h=>by omega⟩
     ·exact kN kc0 []
     ·rintro j ⟨hj,hjn⟩;rcases uF j x.ps.length with hjl|hjg
      ·obtain⟨p,hp⟩:=Zad hjl;by_cases c2:p.nm.size<=40
       ·have f4:¬(40:Int)<p.nm.size:=by omega
        refine kw1 kO (kc2 hp f4) kc0 ?_;refine⟨j+1,?_,kN kc0 [],?_⟩
        ·exact⟨hjl,ZbI hjn hp (yM c2)⟩
        ·omega
       ·have f4:(40:Int)<p.nm.size:=by omega
        refine kw1 kO (kc2 hp f4) kc0 ?_;exact Zaj (by rw[Zg3 hx (by rw[hx2];exact Zg3 hp (yC c2))];rfl)
      ·refine kw1 kO kc0 kc0 ?_;refine⟨k+1,?_,kN kc0 [],?_⟩
       ·exact⟨hlt,ZbI hinv hx (by rw[hx2];exact Zjb hjg hjn)⟩
       ·omega
    ·have hx2:ndF x=false:=by rw[ndF,yC c1];rfl
     refine kw kO (kc1 hx) kc0 ?_
     repeat' first|exact True.intro|refine Bn.mk ?_ ?_|intro hc
     all_goals first|(refine Zaj ?_;rw[Zg3 hx hx2];rfl)|(exfalso;omega)
   ·refine kw1 kO kc0 kc0 ?_;refine Zai (λ(j:Nat)=>j<=g.es.length/\∀(i:Nat) y,i<j->g.es[i]? =some y->edF y=true) (λ j=>[(3, .ptr 3 0 0 0),(10, .int j)]) (λ j=>[(3, .cells [.d (Zbd g.nm), .d (.bool g.dir), .d (.sl (g.ns.map ndD)), .d (.sl (g.es.map edD)), .d (.sl (g.cs.map clD))])]) (λ j=>g.es.length-j) 0 ?_ ?_ ?_
    ·exact⟨uJ _,λ j y h=>by omega⟩
    ·exact kN kc0 []
    ·rintro j ⟨hj,hjn⟩;rw[Zjb hge hinv,kK];rcases uF j g.es.length with hjl|hjg
     ·obtain⟨e,he⟩:=Zad hjl;by_cases c2:e.lb.size<=80
      ·have f4:¬(80:Int)<e.lb.size:=by omega
       by_cases c3:e.ln<=4
       ·have f5:¬(4:Int)<e.ln:=by omega
        refine kw1 kO (kc3 he f4 f5) kc0 ?_;refine⟨j+1,?_,kN kc0 [],?_⟩
        ·exact⟨hjl,ZbI hjn he (yM ⟨c2,c3⟩)⟩
        ·omega
       ·have f5:(4:Int)<e.ln:=by omega
        refine kw1 kO (kc3 he f4 f5) kc0 ?_;exact Zaj (by rw[Zg3 he (yC (λ h=>c3 h.2))];rfl)
      ·have f4:(80:Int)<e.lb.size:=by omega
       refine kw1 kO (kc2 he f4) kc0 ?_;exact Zaj (by rw[Zg3 he (yC (λ h=>c2 h.1))];rfl)
     ·rw[Zjb hjg hjn,kK];refine kw1 kO kc0 kc0 ?_;refine Zai (λ(j:Nat)=>j<=g.cs.length/\∀(i:Nat) y,i<j->g.cs[i]? =some y->clF y=true) (λ j=>[(3, .ptr 3 0 0 0),(11, .int j)]) (λ j=>[(3, .cells [.d (Zbd g.nm), .d (.bool g.dir), .d (.sl (g.ns.map ndD)), .d (.sl (g.es.map edD)), .d (.sl (g.cs.map clD))])]) (λ j=>g.cs.length-j) 0 ?_ ?_ ?_
      ·exact⟨uJ _,λ j y h=>by omega⟩
      ·exact kN kc0 []
      ·rintro j ⟨hj,hjn⟩;rcases uF j g.cs.length with hjl|hjg
       ·obtain⟨c,hc⟩:=Zad hjl;by_cases c2:c.nm.size<=40
        ·have f4:¬(40:Int)<c.nm.size:=by omega
         refine kw1 kO (kc2 hc f4) kc0 ?_;refine⟨j+1,?_,kN kc0 [],?_⟩
         ·exact⟨hjl,ZbI hjn hc (yM c2)⟩
         ·omega
        ·have f4:(40:Int)<c.nm.size:=by omega
         refine kw1 kO (kc2 hc f4) kc0 ?_;exact Zaj (by rw[Zg3 hc (yC c2)])
       ·refine kw1 kO kc0 kc0 ?_;exact Zaj (by rw[Zjb hjg hjn])
 ·rw[Zfg,yC c0,Ck];refine kE Tryz.func11 ?_;intro hat B X w0;refine kw kO kc0 kc0 ?_
  repeat' first|exact True.intro|refine Bn.mk ?_ ?_|intro hc
  all_goals first|exact Zaj rfl|(exfalso;omega)
theorem Zon {g:Gph}{n m:Nat}(h:Zfg g n m=true):g.ns.length<=n/\g.es.length<=m/\Mod g/\∀e∈g.es,e.ln<=4:=by
 simp only[Zfg,uO,uG,uW]at h;obtain⟨⟨h1,h2,h3,h4⟩,h5,h6,h7⟩:=h;refine⟨h1,h2,⟨by omega,λ x hx=>?_,λ e he=>?_,λ c hc=>?_⟩,λ e he=>?_⟩
 ·have:=h5 x hx;simp only[ndF,uO,uG,uW]at this;obtain⟨⟨g1,g2,g3⟩,g4⟩:=this;exact⟨by omega,by omega,λ p hp=>by have:=g4 p hp;rw[ptF,uG]at this;omega⟩
 ·have:=h6 e he;rw[edF,uG]at this;omega
 ·have:=h7 c hc;rw[clF,uG]at this;omega
 ·have:=h6 e he;rw[edF,uG]at this;omega
open Go.Cy (NA InN Zdn Zcs)
theorem ZnJ {g:Gr}{r:List Int}(h:(ZaH g r).2=0)(hl:g.2.length<=100):wide (ZaH g r).1/\(ZaH g r).1.2.2.1.length<=700:=by
 have b:=built h;have hA:=Zja b.gap g.2.length (uH _);have hB:=Zje b.gap g.2.length (uH _);have h1:=b.big;have h2:=b.len;obtain⟨_,h4,_⟩:=Zhl b.gok;rw[b.eq];dsimp only;refine⟨λ y hy=>?_,?_⟩
 ·rw[Zph,Zbs]at hy;obtain⟨k,_,rfl⟩:=uN.1 hy;have:(ZaT (Zaz r g.2 g.2.length) k).length<=(Zaz r g.2 g.2.length).length:=by
   rw[ZaT,uE];have:=jS (λ v=>decide ((Zaz r g.2 g.2.length)[v]? =some (k:Int))) (List.range (Zaz r g.2 g.2.length).length);rw[kS]at this;exact this
  omega
 ·show(ZaO r g.2 g.2.length).length<=700;omega
def pGr (g:Gph):Gr:=((g.ns.length:Int),Zbj (Zbz g) (Zbz g).length)
def ZiF (g:Gph)(o:Opt)(r:List Int):Lv×Int×Int:=if(ZaH (pGr g) r).2=0 then ZgS (ZaH (pGr g) r).1 o.rd else(lv0,0,2)
theorem ZpP {g:Gph}:(pGr g).2.length<=g.es.length:=by
 have:=Zhp (Zbz g) (Zbz g).length;rw[pGr,Zbj,uE];have:=Zg8 g;omega
theorem ZrH {g:Gph}(o:Opt)(hm:Mod g)(h:Zdx g≠0):Zaa Tryz.prog 13 [ZbS g,Zfo o] (.tup [lvD lv0, .int 0, .int (Zdx g)]):=by
 have h1:=Zig g hm;refine kE Tryz.func13 ?_;intro hat B X w0;refine kw1 kO (kc1 h) (kc1 h1) ?_;refine⟨_,rfl,⟨_,_,_,_,rfl,?_⟩,Zah ?_,Zah ?_,trivial⟩
 ·simp(disch:=omega) only[go_sem,simprocAttr];rfl
 ·rfl
 ·rfl
theorem ZrK {g:Gph}{o:Opt}(hm:Mod g)(h:Zdx g=0)(ho:okO o=false):Zaa Tryz.prog 13 [ZbS g,Zfo o] (.tup [lvD lv0, .int 0, .int 7]):=by
 have h1:=Zig g hm;rw[h]at h1;have h2:=ZlW o;rw[ho]at h2;refine kE Tryz.func13 ?_;intro hat B X w0;refine kw1 kO kc0 (kc2 h1 h2) ?_;refine⟨_,rfl,⟨_,_,_,_,rfl,?_⟩,Zah ?_,Zah ?_,trivial⟩
 ·simp(disch:=omega) only[go_sem,simprocAttr];rfl
 ·rfl
 ·rfl
theorem ZrI {g:Gph}{o:Opt}(hs:Zby g)(ho:okO o=true){e:Int}(hS:Sx.SolveNo (ZbW g) e)(he:e≠0):Zaa Tryz.prog 13 [ZbS g,Zfo o] (.tup [lvD lv0, .int 0, .int e]):=by
 have h1:=Zig g hs.md;rw[hs.ok]at h1;have h2:=ZlW o;rw[ho]at h2;have h3:=ZkE hs;have h4:=ZwQ hs hS;refine kE Tryz.func13 ?_;intro hat B X w0;refine kw1 kO (kc1 he) (kc4 h1 h2 h3 h4) ?_;refine⟨_,rfl,⟨_,_,_,_,rfl,?_⟩,Zah ?_,Zah ?_,trivial⟩
 ·simp(disch:=omega) only[go_sem,simprocAttr];rfl
 ·rfl
 ·rfl
theorem ZrJ {g:Gph}{o:Opt}(hs:Zby g)(hl:g.es.length<=100)(ho:okO o=true){r f:List Int}(hS:Sx.SolveOk (ZbW g) r f):
  Zaa Tryz.prog 13 [ZbS g,Zfo o] (.tup [lvD (ZiF g o r).1, .int (ZiF g o r).2.1, .int (ZiF g o r).2.2]):=by
 have h1:=Zig g hs.md;rw[hs.ok]at h1;have h2:=ZlW o;rw[ho]at h2;have h3:=ZkE hs;have h4:=Zqb hs hS;have h5:Zaa Tryz.prog 49 [.ag [.int g.ns.length,Zak (Zbj (Zbz g) (Zbz g).length)],Zac r] (.tup [lvD (ZaH (pGr g) r).1, .int (ZaH (pGr g) r).2]):=Zm0 (pGr g) r;have hpl:=ZpP (g:=g);rw[ZiF];by_cases hb:(ZaH (pGr g) r).2=0
 ·rw[if_pos hb];obtain⟨q1,q2⟩:=ZnJ hb (by omega);have h6:=ZvO (ZaH (pGr g) r).1 o.rd q1 q2;rw[hb]at h5;generalize(ZaH (pGr g) r).1=b at*;generalize ZgS b o.rd=R at*;obtain⟨n,ls,ar,cs⟩:=b;obtain⟨⟨n',ls',ar',cs'⟩,R2,R3⟩:=R;refine kE Tryz.func13 ?_;intro hat B X w0;refine kw1 kO kc0 (kc6 h1 h2 h3 h4 h5 h6) ?_;refine⟨_,rfl,⟨_,_,_,_,rfl,?_⟩,Zah ?_,Zah ?_,trivial⟩
  ·simp(disch:=omega) only[go_sem,simprocAttr]
  ·rfl
  ·rfl
 ·rw[if_neg hb];generalize ZaH (pGr g) r=b at*;obtain⟨⟨n,ls,ar,cs⟩,b2⟩:=b;dsimp only at hb h5;refine kE Tryz.func13 ?_;intro hat B X w0;refine kw1 kO (kc1 hb) (kc5 h1 h2 h3 h4 h5) ?_;refine⟨_,rfl,⟨_,_,_,_,rfl,?_⟩,Zah ?_,Zah ?_,trivial⟩
  ·simp(disch:=omega) only[go_sem,simprocAttr];rfl
  ·rfl
  ·rfl
end Go.Proofs.YtjjbhjnpeenbkaaGreatDoor.Gr
namespace Go.Proofs.YtjjbhjnpeenbkaaGreatDoor.Gr
open Go Go.PS Go.Proofs Go.Proofs.YtjjbhjnpeenbkaaGreatDoor
set_option maxRecDepth 100000
theorem Zhb {n:Nat}{cs:List D}(h:Zbl Tryz.prog (n+1) 9 cs):∃s:ByteArray,cs=[Zbd s]:=by
 have hu:Tryz.prog.underlying 9=some .string:=by kernel_rfl
 simp only[Zbl,hu]at h;exact h
theorem ZsU {n:Nat}{cs:List D}(h:Zbl Tryz.prog (n+1) 4 cs):∃b:Bool,cs=[.bool b]:=by
 have hu:Tryz.prog.underlying 4=some .bool:=by kernel_rfl
 simp only[Zbl,hu]at h;exact h
theorem ZsY {n:Nat}{cs:List D}(h:Zbl Tryz.prog (n+3) 64 cs):∃l:List Pt,cs=[.sl (l.map ptD)]:=by
 obtain⟨l,rfl,hl⟩:=Zjn (e:=92) (by kernel_rfl) h;obtain⟨ys,rfl⟩:=Zir (f:=ptD) (l:=l) (λ d hd=>by
  obtain⟨es,rfl,_,he⟩:=hl d hd;obtain⟨_,_,rfl,h1,_,_,rfl,h2,rfl⟩:=Zhc (ts:=[9,3]) (by kernel_rfl) he;obtain⟨a,rfl⟩:=Zhb h1;obtain⟨b,rfl⟩:=ZcN h2;rw[Zzw];exact⟨⟨a,b⟩,rfl⟩)
 exact⟨ys,rfl⟩
theorem ZsX {n:Nat}{cs:List D}(h:Zbl Tryz.prog (n+5) 22 cs):∃l:List Nd,cs=[.sl (l.map ndD)]:=by
 obtain⟨l,rfl,hl⟩:=Zjn (e:=66) (by kernel_rfl) h;obtain⟨ys,rfl⟩:=Zir (f:=ndD) (l:=l) (λ d hd=>by
  obtain⟨es,rfl,_,he⟩:=hl d hd;obtain⟨_,_,rfl,h1,_,_,rfl,h2,_,_,rfl,h3,_,_,rfl,h4,_,_,rfl,h5,_,_,rfl,h6,rfl⟩:=Zhc (ts:=[9,9,3,3,3,64]) (by kernel_rfl) he;obtain⟨a,rfl⟩:=Zhb h1;obtain⟨b,rfl⟩:=Zhb h2;obtain⟨c,rfl⟩:=ZcN h3;obtain⟨d,rfl⟩:=ZcN h4;obtain⟨e,rfl⟩:=ZcN h5;obtain⟨f,rfl⟩:=ZsY h6;rw[Zzv];exact⟨⟨a,b,c,d,e,f⟩,rfl⟩)
 exact⟨ys,rfl⟩
theorem ZsW {n:Nat}{cs:List D}(h:Zbl Tryz.prog (n+3) 23 cs):∃l:List Ed,cs=[.sl (l.map edD)]:=by
 obtain⟨l,rfl,hl⟩:=Zjn (e:=61) (by kernel_rfl) h;obtain⟨ys,rfl⟩:=Zir (f:=edD) (l:=l) (λ d hd=>by
  obtain⟨es,rfl,_,he⟩:=hl d hd;obtain⟨_,_,rfl,h1,_,_,rfl,h2,_,_,rfl,h3,_,_,rfl,h4,_,_,rfl,h5,_,_,rfl,h6,_,_,rfl,h7,rfl⟩:=Zhc (ts:=[3,3,3,3,9,3,3]) (by kernel_rfl) he;obtain⟨a,rfl⟩:=ZcN h1;obtain⟨b,rfl⟩:=ZcN h2;obtain⟨c,rfl⟩:=ZcN h3;obtain⟨d,rfl⟩:=ZcN h4;obtain⟨e,rfl⟩:=Zhb h5;obtain⟨f,rfl⟩:=ZcN h6;obtain⟨g,rfl⟩:=ZcN h7;rw[Zzu];exact⟨⟨a,b,c,d,e,f,g⟩,rfl⟩)
 exact⟨ys,rfl⟩
theorem ZsV {n:Nat}{cs:List D}(h:Zbl Tryz.prog (n+3) 24 cs):∃l:List Cl,cs=[.sl (l.map clD)]:=by
 obtain⟨l,rfl,hl⟩:=Zjn (e:=94) (by kernel_rfl) h;obtain⟨ys,rfl⟩:=Zir (f:=clD) (l:=l) (λ d hd=>by
  obtain⟨es,rfl,_,he⟩:=hl d hd;obtain⟨_,_,rfl,h1,_,_,rfl,h2,rfl⟩:=Zhc (ts:=[9,3]) (by kernel_rfl) he;obtain⟨a,rfl⟩:=Zhb h1;obtain⟨b,rfl⟩:=ZcN h2;rw[Zzx];exact⟨⟨a,b⟩,rfl⟩)
 exact⟨ys,rfl⟩
theorem Zsc {x:D}(h:ZhP Tryz.prog 26 x):∃g:Gph,x=ZbS g:=by
 obtain⟨cs,h,rfl⟩:=h;obtain⟨_,_,rfl,h1,_,_,rfl,h2,_,_,rfl,h3,_,_,rfl,h4,_,_,rfl,h5,rfl⟩:=Zhc (ts:=[9,4,22,23,24]) (by kernel_rfl) h;obtain⟨a,rfl⟩:=Zhb h1;obtain⟨b,rfl⟩:=ZsU h2;obtain⟨c,rfl⟩:=ZsX h3;obtain⟨d,rfl⟩:=ZsW h4;obtain⟨e,rfl⟩:=ZsV h5;rw[Zzs];exact⟨⟨a,b,c,d,e⟩,rfl⟩
theorem Zsd {x:D}(h:ZhP Tryz.prog 28 x):∃o:Opt,x=Zfo o:=by
 obtain⟨cs,h,rfl⟩:=h;obtain⟨_,_,rfl,h1,_,_,rfl,h2,_,_,rfl,h3,_,_,rfl,h4,_,_,rfl,h5,rfl⟩:=Zhc (ts:=[3,3,3,3,3]) (by kernel_rfl) h;obtain⟨a,rfl⟩:=ZcN h1;obtain⟨b,rfl⟩:=ZcN h2;obtain⟨c,rfl⟩:=ZcN h3;obtain⟨d,rfl⟩:=ZcN h4;obtain⟨e,rfl⟩:=ZcN h5;rw[Zzt];exact⟨⟨a,b,c,d,e⟩,rfl⟩
open Go.Cy (NA InN Zdn Zcs)
attribute [local irreducible] Zab wpG Zaa Zaf
theorem Zvz {g:Gph}(hs:Zby g):Sx.nOk (ZbW g)=true:=by
 have hbl:=Zg8 g;have hbi:=ZsG hs.ok;have h256:=(Zgn hs.ok).1;have hn8:=hs.n8;rw[ZbW];generalize Zbz g=l at*;have hlk:=Zhp l l.length;have hbd:=Zg6 (g:=g) (l:=l) (uH _);simp only[Sx.nOk,uO,uG,yK,qU];refine⟨⟨by omega,by omega,by rw[hbd];omega⟩,λ b hb=>?_⟩;rw[Zbe,uD (uH _)]at hb;obtain⟨i,hi,rfl⟩:=uN.1 hb;obtain⟨q1,q2⟩:=ZjE hi;obtain⟨a,ha⟩:=Zad q1;obtain⟨e,he⟩:=Zad (l:=g.es) (k:=i) (by omega);rw[ZeX,ha,uG]at q2;have h1:=hbi a (uA ha);have h2:=Zk8 hs.ok he;rw[Zjf,ha,he];simp[Sx.bdIn];omega
theorem ZvA {g:Gph}(hs:Zby g):Sx.SolveNo (ZbW g) 9\/∃r f,Sx.SolveOk (ZbW g) r f/\Sx.Best g.ns.length (ZbW g).2 r f:=by
 have h:=Zvz hs;by_cases hp:∃p,Sx.PotB (ZbW g).2 (Sx.zeros (ZbW g).2) p
 ·exact .inr (Sx.solve_best (n:=g.ns.length) (l:=(ZbW g).2) h hp)
 ·exact .inl (Sx.solve_none (n:=g.ns.length) (l:=(ZbW g).2) h hp)
theorem ZvT {o:Opt}(h:okO o=true):0<=o.rd/\o.rd<=100:=by
 simp only[okO,ZfJ,uO,uG]at h;omega
theorem Zv9 {g:Gph}(o:Opt)(hm:Mod g)(h8:g.ns.length<=8)(hl:g.es.length<=100):(∃lv n e,Zaa Tryz.prog 13 [ZbS g,Zfo o] (.tup [lvD lv, .int n, .int e])/\e≠0)\/
  ∃r f n,Zby g/\okO o=true/\Sx.SolveOk (ZbW g) r f/\Sx.Best g.ns.length (ZbW g).2 r f/\(ZaH (pGr g) r).2=0/\Zay (ZaH (pGr g) r).1=true/\
   Zaa Tryz.prog 13 [ZbS g,Zfo o] (.tup [lvD (Zdu (Zb5 (ZaH (pGr g) r).1 o.rd.toNat)), .int n, .int 0]):=by
 by_cases hv:Zdx g=0
 ·rcases ho:okO o with _|_
  ·exact .inl ⟨_,_,_,ZrK hm hv ho,by decide⟩
  ·have hs:Zby g:=⟨hm,hv,h8⟩;rcases ZvA hs with h|⟨r,f,hS,hB⟩
   ·exact .inl ⟨_,_,_,ZrI hs ho h (by decide),by decide⟩
   ·have h:=ZrJ hs hl ho hS;rw[ZiF]at h;by_cases hb:(ZaH (pGr g) r).2=0
    ·rw[if_pos hb,ZgS]at h;by_cases c:Zay (ZaH (pGr g) r).1=true/\0<=o.rd/\o.rd<=100
     ·rw[if_pos c]at h;exact .inr ⟨r,f,_,hs,rfl,hS,hB,hb,c.1,h⟩
     ·rw[if_neg c]at h;exact .inl ⟨_,_,_,h,by decide⟩
    ·rw[if_neg hb]at h;exact .inl ⟨_,_,_,h,by decide⟩
 ·exact .inl ⟨_,_,_,ZrH o hm hv,hv⟩
theorem ZuQ (g:Gph)(o:Opt):Zaa Tryz.prog 3 [ZbS g,Zfo o] (.bool true):=by
 have h9:=ZwR;have h1:=ZtP g 8 10 (by decide) (by decide);rcases c1:Zfg g 8 10 with _|_<;>rw[c1]at h1
 ·refine kE Tryz.func3 ?_;intro hat B X w0;refine kw1 kO kc0 (kc2 h1 h9) ?_;exact Zaj rfl
 ·obtain⟨f1,f2,f3,f4⟩:=Zon c1;by_cases c2:3<o.rd/\o.rd<=100
  ·obtain⟨c2,c3⟩:=c2;refine kE Tryz.func3 ?_;intro hat B X w0;refine kw1 kO (kc2 c2 c3) (kc2 h1 h9) ?_;exact Zaj rfl
  ·rcases Zv9 o f3 f1 (by omega)with⟨lv,n,e,h2,he⟩|⟨r,f,n,hs,ho,hS,hB,hb,hv,h2⟩
   ·obtain⟨lm,ls,ar,cs⟩:=lv;refine kE Tryz.func3 ?_;intro hat B X w0;refine kw kO (kc1 he) (kc3 h1 h2 h9) ?_
    repeat' first|exact True.intro|refine Bn.mk ?_ ?_|intro hc
    all_goals first|exact Zaj rfl|(exfalso;omega)
   ·have hpl:=ZpP (g:=g);have c3:¬3<o.rd:=by have:=ZvT ho;omega
    obtain⟨q1,q2⟩:=ZnJ hb (by omega);generalize(ZaH (pGr g) r).1=b at*;have hKb:=ZkS hv q1 o.rd.toNat;obtain⟨hK,_,hop⟩:=ZwT hKb;have h3:=λ i:Int=>ZrG _ i hK.wd (by rw[hK.arcs];exact q2)
    have h4:=ZwM _ hK.wd;have hzl:=(Zcv hK.ok).1;rw[<-ZzM,hK.ok]at h4;generalize Zdu (Zb5 b o.rd.toNat)=z at*;have hopt:∀i:Nat,i<z.2.1.length->(Zaq z.2.1 i).length<=8->Zaa Tryz.prog 14 [lvD z, .int i] (.bool true):=λ i hi h8=>by
     have h:=h3 i;have hl:=hK.llen i;have hlen:=hK.len;rw[ZuL hK (by omega) (by omega) (hop i (by omega))]at h;exact h
    obtain⟨zn,zl,za,zc⟩:=z;dsimp only at hopt hzl;refine kE Tryz.func3 ?_;intro hat B X w0;refine kw kO (kc1 c3) (kc2 h1 h2) ?_
    repeat' first|exact True.intro|refine Bn.mk ?_ ?_|intro hc
    refine Zai (λ(i:Nat)=>i<=zl.length) (λ i=>[(5, .ptr 5 0 0 0),(8, .int i)]) (λ i=>[(5, .cells [.int zn, .d (Zae zl), .d (Zak za), .d (Zae zc)])]) (λ i=>zl.length-i) 0 ?_ ?_ ?_
    ·exact uJ _
    ·exact kN kc0 []
    ·intro i hi;rcases uF i zl.length with hlt|hge
     ·obtain⟨y,hy⟩:=Zad hlt;by_cases c8:y.length<=8
      ·have h5:=hopt i hlt (by rw[Zc8 hy];exact c8);refine kw1 kO (kc2 hy c8) (kc1 h5) ?_;refine⟨i+1,?_,eL [] _ _ (by refine⟨?_,?_⟩<;>(repeat' first|exact fmn|refine fmc ⟨(by first|rfl|(simp(disch:=omega) only[go_sem,simprocAttr,inL];first|done|omega|(congr 1;done))),?_⟩);done),?_⟩
       ·exact hlt
       ·omega
      ·refine kw1 kO (kc2 hy c8) kc0 ?_;refine⟨i+1,?_,eL [] _ _ (by refine⟨?_,?_⟩<;>(repeat' first|exact fmn|refine fmc ⟨(by first|rfl|(simp(disch:=omega) only[go_sem,simprocAttr,inL];first|done|omega|(congr 1;done))),?_⟩);done),?_⟩
       ·exact hlt
       ·omega
     ·refine kw1 kO kc0 (kc2 h4 h9) ?_;exact Zaj rfl
end Go.Proofs.YtjjbhjnpeenbkaaGreatDoor.Gr
