/- Copies of lists of arcs; the turning of arcs. -/
import Derived.Test.YtjjbhjnpeenbkaaGreatDoorDgB
import Derived.Test.YtjjbhjnpeenbkaaGreatDoorPSEnd
import Derived.Test.YtjjbhjnpeenbkaaGreatDoorPSCmp
import Derived.Test.YtjjbhjnpeenbkaaGreatDoorPSKahn
set_option linter.unusedSimpArgs false
set_option linter.unusedVariables false
set_option maxHeartbeats 16000000
namespace Go.Proofs.YtjjbhjnpeenbkaaGreatDoor.Cyc
open Go Go.PS Go.Proofs
set_option maxRecDepth 100000
attribute [local irreducible] Zad wpG Zaa Zag
theorem ZxB :Zaa Tryz.prog 210 [Zaj []] (Zaj []):=by
 refine kE Tryz.func210 ?_;intro hat B X w0;refine kw1 kO kc0 kc0 ?_;refine Zku 4 rfl ?_;intro b;cases b
 ·refine kw1 (kow (Nat.beq 5) (b:=true)) kc0 kc0 ?_;exact Zcm rfl
 ·refine kw1 kO kc0 kc0 ?_;exact Zcm rfl
theorem Zln (l:List Arc)(hl:l≠[])(hn:l.length<=1000000):Zag Tryz.prog 210 [.d (Zaj l)] [(2000, .dead)] (.ref 2000 2 0 l.length l.length) [(2000, .row 2 (l.map Za0))]:=by
 have he:(l.map Za0).isEmpty=false:=by simpa using hl
 have hpos:0<l.length:=Ae.2 hl;refine kM Tryz.func210 ?_;intro B X w0;refine kw1 (kow (Nat.beq 5) (b:=false)) (kc2 he @Zal) kc0 ?_;refine eR [(2000,7)] [(2, .ref 2000 2 0 _ _)] [(2000, .row 2 _)] (by refine⟨?_,?_⟩<;>(repeat' first|exact fmn|refine fmc ⟨(by first|rfl|(simp(disch:=omega) only[go_sem,simprocAttr,inL];first|done|omega|(congr 1;done))),?_⟩);done) ?_;refine Za7 ?_;exact⟨rfl,uK.2 ⟨rfl,uW _⟩⟩
def Zmm (a:Arc):Arc:=(a.2,a.1)
def Zfv (l:List Arc)(set:List Int):List Arc:=l.mapIdx λ i a=>if Ze7 set i then Zmm a else a
theorem Zh2 (l:List Arc)(set:List Int):(Zfv l set).length=l.length:=by simp[Zfv]
theorem ZjR {l:List Arc}{set:List Int}{k:Nat}{a:Arc}(h:l[k]? =some a):(Zfv l set)[k]? =some (if Ze7 set k then Zmm a else a):=by
 simp[Zfv,List.getElem?_mapIdx,h]
theorem ZyK (l:List Arc):Zfv l []=l:=by
 refine qA λ u=>?_
 rcases uE u l.length with h|h
 ·obtain⟨a,ha⟩:=Zac h;rw[ZjR ha,ha];simp[Ze7]
 ·rw[uN (by rw[Zh2];exact h),uN h]
theorem Zy4 {set:List Int}{j:Nat}{x:Int}(hx:set[j]? =some x)(n:Int):Ze7 (set.take (j+1)) n=(Ze7 (set.take j) n||decide (x=n)):=by
 simp[Ze7,ZaA hx]
theorem ZyO {l:List Arc}{set:List Int}{j i:Nat}{a:Arc}(hx:set[j]? =some (i:Int))(ha:l[i]? =some a):
  Zfv l (set.take (j+1))=(Zfv l (set.take j)).set i (Zmm a):=by
 refine qA λ u=>?_
 rcases uE u l.length with h|h
 ·obtain⟨b,hb⟩:=Zac h;rw[ZjR hb,Zy4 hx,qL,ZjR hb,Zh2];by_cases hi:i=u
  ·subst hi;rw[ha]at hb;cases hb;simp[h]
  ·have:¬(i:Int)=u:=by omega
   simp[hi,this]
 ·rw[uN (by rw[Zh2];exact h),uN (by rw[yP,Zh2];exact h)]
theorem ZyA {e:Nat->Int}{n k:Nat}(h:Zd9 e n=0)(hk:k<n):e k=0:=by
 induction n with
 |zero=>omega
 |succ n ih=>
  simp only[Zd9]at h;split at h
  ·rename_i h0;rcases yY.1 hk with h1|rfl
   ·exact ih h0 h1
   ·exact h
  ·rename_i h0;exact(h0 h).elim
theorem Zsp {l:List Int}{n:Int}(h:Zgx l n=0){k:Nat}{x:Int}(hx:l[k]? =some x):0<=x/\x<n:=by
 have:=ZyA h (uB.1 hx).1;simp only[ZgU,hx]at this;split at this
 ·omega
 ·omega
def ZfW (g:Gr)(set:List Int):Gr×Int:=if gOk g then(if Zgx set g.2.length=0 then((g.1,Zfv g.2 set),0)else((0,[]),Zgx set g.2.length))else((0,[]),1)
theorem ZvO (g:Gr)(set:List Int):Zaa Tryz.prog 158 [gD g,Zab set] (.tup [gD (ZfW g set).1, .int (ZfW g set).2]):=by
 rcases h:gOk g with _|_
 ·have hv:Zaa Tryz.prog 97 [gD g] (.bool false):=h▸Zgi g;have e:ZfW g set=((0,[]),1):=by simp[ZfW,h]
  rw[e];refine kE Tryz.func158 ?_;intro hat B X w0;refine kw1 kO kc0 (kc1 hv) ?_;refine⟨_,rfl,⟨_,_,_,_,rfl,?_⟩,Zai ?_,trivial⟩
  ·simp(disch:=omega) only[go_sem,simprocAttr];rfl
  ·rfl
 ·have hv:Zaa Tryz.prog 97 [gD g] (.bool true):=h▸Zgi g;obtain⟨h1,h2,h3,h4⟩:=ZjU h;obtain⟨n,l⟩:=g;dsimp only at h1 h2 h3 h4;have hs:=Zz4 set l.length;rcases gZ (Zgx set l.length=0)with c|c
  ·have e:ZfW (n,l) set=((n,Zfv l set),0):=by simp[ZfW,h,c]
   rw[e];rw[c]at hs;rcases gZ (l=[])with hl0|hl0
   ·subst hl0;have hse:set=[]:=by
     cases set with
     |nil=>rfl
     |cons x t=>
      have:=Zsp (x:=x) (k:=0) c rfl;simp at this;omega
    subst hse;refine kE Tryz.func158 ?_;intro hat B X w0;have hcl:=ZxB;refine kw1 kO kc0 (kc3 hv hs hcl) ?_;refine Zaf (λ(k:Nat)=>k=0) (λ k=>[(4, .ptr 4 0 0 0),(7, .ptr 7 0 0 0),(30, .int 0),(31, .int k)]) (λ k=>[(4, .cells [.int 0, .nilS]),(7, .cells [.int n, .d (.sl [])])]) (λ k=>k) 0 ?_ ?_ ?_
    ·rfl
    ·exact kN kc0 []
    ·rintro k rfl;refine kw1 kO kc0 kc0 ?_;refine⟨_,rfl,⟨_,_,_,_,rfl,?_⟩,Zai ?_,trivial⟩
     ·simp(disch:=omega) only[go_sem,simprocAttr];rfl
     ·rfl
   ·have hcl:=Zln l hl0 (by omega);refine kE Tryz.func158 ?_;intro hat B X w0;have hsl:=ZaJ 1 hat rfl;rw[uC]at hsl;refine kw1 kO kc0 (kc3 hv hs (kmc [(2000,27)] hcl)) ?_;refine Zaf (λ(k:Nat)=>k<=set.length) (λ k=>[(2, .ptr 2 0 0 0),(4, .ptr 4 0 0 0),(7, .ptr 7 0 0 0),(29, .d (Zab set)),(30, .int set.length),(31, .int k)]) (λ k=>[(2, .cells [.int n, .d (Zaj l)]),(4, .cells [.int 0, .nilS]),(7, .cells [.int n, .ref 27 2 0 l.length l.length]),(27, .row 2 ((Zfv l (set.take k)).map Za0))]) (λ k=>set.length-k) 0 ?_ ?_ ?_
    ·exact uH _
    ·exact kN (kc2 @yX.{0} @ZyK) []
    ·intro k hk;rcases uE k set.length with hlt|hge
     ·obtain⟨x,hx⟩:=Zac hlt;have hxi:=Zsp c hx;obtain⟨i,rfl⟩:∃i:Nat,x=i:=⟨x.toNat,by omega⟩;obtain⟨p,hp⟩:=Zac (show i<l.length by omega);have hg:=ZjR (set:=set.take k) hp;have hstep:=ZyO hx hp;have hlen:=Zh2 l (set.take k);refine kw1 kO (kc4 hx hp hg hlen) kc0 ?_;refine⟨k+1,?_,kN (kc2 @hstep @yZ.{0,0}) [],?_⟩
      ·omega
      ·omega
     ·refine kw1 kO kc0 kc0 ?_;have:k=set.length:=by omega
      subst this;refine⟨_,rfl,⟨_,_,_,_,rfl,?_⟩,Zai ?_,trivial⟩
      ·simp(disch:=omega) only[go_sem,simprocAttr];simp[toD,gD,Zaj,Zh2,uD]
      ·rfl
  ·have e:ZfW (n,l) set=((0,[]),Zgx set l.length):=by simp[ZfW,h,c]
   rw[e];refine kE Tryz.func158 ?_;intro hat B X w0;refine kw1 kO kc0 (kc2 hv hs) ?_;refine⟨_,rfl,⟨_,_,_,_,rfl,?_⟩,Zai ?_,trivial⟩
   ·simp(disch:=omega) only[go_sem,simprocAttr];rfl
   ·rfl
open Go.Cy (NA)
def tzF :Nat->Nat->Nat
 |0,_=>0
 |f+1,x=>if x%2=1 then 0 else tzF f (x/2)+1
def tz (x:Nat):Nat:=tzF 8 x
theorem ZEU :tabs Tryz.prog=[(1,Zew)]:=by kernel_rfl
theorem ZET :(ZfD [(1,Zew)] 1).length=64:=by decide+kernel
def tzI (x:Nat):Nat:=((IntKind.u64.wrap (IntKind.u64.wrap ((BitVec.ofInt 64 (x:Int)&&&BitVec.ofInt 64 (IntKind.u64.wrap (-(x:Int)))).toNat:Int)*285870213051353865)).fdiv (2^min 58 64)).toNat
theorem ZFd :∀x:Nat,x<256->0<x->(IntKind.u64.wrap (IntKind.u64.wrap ((BitVec.ofInt 64 (x:Int)&&&BitVec.ofInt 64 (IntKind.u64.wrap (-(x:Int)))).toNat:Int)*285870213051353865)).fdiv (2^min 58 64)=(tzI x:Int)/\tzI x<64/\Zew[tzI x]? =some (tz x:Int):=by decide+kernel
theorem ZFe {k:Nat}{v:Int}(h:Zew[k]? =some v):(ZfD [(1,Zew)] 1).drop k=D.sc (.int .u8 v)::(ZfD [(1,Zew)] 1).drop (k+1):=by
 have h1:(ZfD [(1,Zew)] 1)[k]? =some (D.sc (.int .u8 v)):=by
  show(Zew.map λ v=>D.sc (.int .u8 v))[k]? =_;rw[uI,h];rfl
 obtain⟨h2,h3⟩:=uB.1 h1;rw[qY h2,h3]
theorem Zwa (x:Nat)(h0:0<x)(h1:x<256):Zaa Tryz.prog 261 [.sc (.int .u64 x)] (.int (tz x)):=by
 obtain⟨k,e1,e2,e3⟩:∃k:Nat,(IntKind.u64.wrap (IntKind.u64.wrap ((BitVec.ofInt 64 (x:Int)&&&BitVec.ofInt 64 (IntKind.u64.wrap (-(x:Int)))).toNat:Int)*285870213051353865)).fdiv (2^min 58 64)=(k:Int)/\k<64/\Zew[k]? =some (tz x:Int):=⟨_,ZFd x h1 h0⟩;have e4:=ZFe e3;have e5:(0:Int)<=k:=Int.natCast_nonneg _;have e6:IntKind.i64.wrap (tz x:Int)=tz x:=by
  have:∀x:Nat,x<256->IntKind.i64.wrap (tz x:Int)=tz x:=by decide+kernel
  exact this x h1
 refine kE Tryz.func261 ?_;intro hat B X w0;refine kw1 kO (kc7 @ZEU e1 e4 e6 e2 @ZET @uM) kc0 ?_;exact Zai rfl
theorem Zwb (x:Nat)(h0:0<x)(h1:x<256):Zaa Tryz.prog 236 [.sc (.int .u64 x)] (.int (tz x)):=by
 have h:=Zwa x h0 h1;refine kE Tryz.func236 ?_;intro hat B X w0;refine kw1 kO kc0 (kc1 h) ?_;exact Zai rfl
end Go.Proofs.YtjjbhjnpeenbkaaGreatDoor.Cyc
namespace Go.Proofs.YtjjbhjnpeenbkaaGreatDoor.Cyc
open Go Go.PS Go.Proofs
open Go.Cy (NA Zco ZcS ZdN Zfs Zeu Ze6 atN inB ZeB fmF ZeW)
set_option maxRecDepth 100000
attribute [local irreducible] Zad wpG Zaa Zag
abbrev Zam (n:Nat):D:= .int n
abbrev Zbe (l:List Nat):D:= .sl (l.map Zam)
def Zbj (c:Nat->Nat->Nat)(f:PV):List PV:=(List.range 64).map (λ i=>PV.int (c (i/8) (i%8)))++[f]
theorem ZkM (c:Nat->Nat->Nat)(f:PV):(Zbj c f).length=65:=by simp[Zbj]
theorem ZFO (c:Nat->Nat->Nat)(f:PV){v u:Nat}(hv:v<8)(hu:u<8):∃r,(Zbj c f).drop (v*8+u)= .int (c v u)::r:=by
 have h1:(Zbj c f)[v*8+u]? =some (.int (c v u)):=by
  rw[Zbj,qE (by simp;omega),uI,yR (by omega)];simp only[qB];rw[show(v*8+u)/8=v by omega,show(v*8+u)%8=u by omega]
 obtain⟨h2,h3⟩:=uB.1 h1;exact⟨_,by rw[qY h2,h3]⟩
theorem ZvD (n:PV)(c:Nat->Nat->Nat)(f:PV){v u:Nat}(hv:v<8)(hu:u<8):∃r,(n::Zbj c f).drop (1+v*8+u)= .int (c v u)::r:=by
 rw[show 1+v*8+u=(v*8+u)+1 by omega,Ac];exact ZFO c f hv hu
theorem Zpz (c:Nat->Nat->Nat)(f:PV):(Zbj c f).drop 64=[f]:=by
 rw[Zbj,List.drop_left' (by simp)]
theorem Zm1 :∀x:Nat,x<256->0<x->tz x<8/\Go.Cy.bits 8 x=tz x::Go.Cy.bits 8 (x&&&(x-1))/\(x&&&(x-1))<x:=by decide+kernel
theorem Zqo {n s:Nat}(h:n<=8)(hs:s<2^n):Go.Cy.bits n s=Go.Cy.bits 8 s:=by
 have e:List.range 8=List.range n++(List.range (8-n)).map (n+·):=by
  rw[show 8=n+(8-n) by omega,List.range_add];simp
 rw[Go.Cy.bits,Go.Cy.bits,e,gC];have:((List.range (8-n)).map (n+·)).filter (λ u=>s.testBit u)=[]:=by
  rw[List.filter_eq_nil_iff];intro u hu;obtain⟨k,_,rfl⟩:=uP.1 hu;rw[zI (gG hs (kD (by decide) (by omega)))]
  decide
 rw[this,yT]
theorem ZFf {n x:Nat}(h:n<=8)(h0:0<x)(hx:x<2^n):tz x<n:=by
 have:=Go.Cy.pow_le8 h;obtain⟨_,h2,_⟩:=Zm1 x (by omega) h0;have h3:tz x∈Go.Cy.bits n x:=by rw[Zqo h hx,h2];simp
 exact(Go.Cy.mem_bits.1 h3).1
def ZgK (f:Nat->Nat)(x:Nat):Nat:=((Go.Cy.bits 8 x).map f).sum
theorem ZEL {f:Nat->Nat}{x:Nat}(hx:x<256)(h0:0<x):ZgK f x=f (tz x)+ZgK f (x&&&(x-1)):=by
 obtain⟨_,h2,_⟩:=Zm1 x hx h0;rw[ZgK,h2];simp[ZgK]
theorem ZEM (f:Nat->Nat):ZgK f 0=0:=by
 have:Go.Cy.bits 8 0=[]:=by decide+kernel
 rw[ZgK,this];rfl
theorem Zvb {f:Nat->Nat}{k:Nat}:∀{l:List Nat},(∀u,u∈l->f u<=k)->(l.map f).sum<=l.length*k
 |[],_=>by simp
 |x::l,h=>by
  have h1:=h x (by simp);have h2:=Zvb λ u hu=>h u (uO _ hu)
  simp only[uT,jI,yB,qJ];omega
theorem ZEK {f:Nat->Nat}{k x:Nat}(h:∀u,f u<=k):ZgK f x<=8*k:=by
 refine gP (Zvb λ u _=>h u) (yO _ ?_);exact gP (gN _ _) (by simp)
theorem ZxP (n:Nat)(c:Nat->Nat->Nat)(fm:List Nat)(s:Nat):ZcS n c fm s<=1048576:=by
 cases s with
 |zero=>rw[Go.Cy.costN_zero];omega
 |succ k=>rw[Go.Cy.costN_succ,ZdN];exact Go.Cy.foldMin_le.1
def Zdt (n:Nat)(c:Nat->Nat->Nat)(fm:List Nat)(k v:Nat):Nat:=Ze6 (Zeu n fm (k+1)) (Zfs n c (Zco n c fm k) (k+1)) (List.range v) 1048576
theorem Zwf (n:Nat)(c:Nat->Nat->Nat)(fm:List Nat)(k:Nat):Zdt n c fm k 0=1048576:=rfl
theorem Zwe (n:Nat)(c:Nat->Nat->Nat)(fm:List Nat)(k v:Nat):Zdt n c fm k (v+1)=if Zeu n fm (k+1) v=true then min (Zdt n c fm k v) (Zfs n c (Zco n c fm k) (k+1) v)else Zdt n c fm k v:=by
 simp[Zdt,Ze6,qN]
def ZdX (n:Nat)(c:Nat->Nat->Nat)(fm:List Nat)(L k:Nat)(x:Nat):List D:=(Zco n c fm k).map Zam++Zam x::List.replicate (L-(k+2)) (.int 0)
def Zfg (n:Nat)(c:Nat->Nat->Nat)(fm:List Nat)(L k:Nat):List D:=(Zco n c fm k).map Zam++List.replicate (L-(k+1)) (.int 0)
theorem ZCV (n:Nat)(c:Nat->Nat->Nat)(fm:List Nat)(L k x y:Nat):(ZdX n c fm L k x).set (k+1) (Zam y)=ZdX n c fm L k y:=by
 have h:=Go.Cy.costL_len n c fm k;rw[ZdX,List.set_append_right _ _ (by simp[h]),uC,h,jD];rfl
theorem ZCZ (n:Nat)(c:Nat->Nat->Nat)(fm:List Nat){L k:Nat}(y:Nat)(hk:k+1<L):(Zfg n c fm L k).set (k+1) (Zam y)=ZdX n c fm L k y:=by
 have h:=Go.Cy.costL_len n c fm k;rw[Zfg,List.set_append_right _ _ (by simp[h]),uC,h,jD,show L-(k+1)=(L-(k+2))+1 by omega,zE];rfl
theorem ZCU (n:Nat)(c:Nat->Nat->Nat)(fm:List Nat){L k x:Nat}(hk:k+1<L):(ZdX n c fm L k x).length=L:=by
 simp[ZdX,Go.Cy.costL_len];omega
theorem ZCX (n:Nat)(c:Nat->Nat->Nat)(fm:List Nat){L k:Nat}(hk:k<L):(Zfg n c fm L k).length=L:=by
 simp[Zfg,Go.Cy.costL_len];omega
theorem ZqO (n:Nat)(c:Nat->Nat->Nat)(fm:List Nat){k s:Nat}(h:s<=k):(Zco n c fm k)[s]? =some (ZcS n c fm s):=by
 have h1:s<(Zco n c fm k).length:=by rw[Go.Cy.costL_len];omega
 have h2:=Go.Cy.costL_at n c fm h;rw[atN,uR h1]at h2;rw[uR h1];simp only[yN]at h2;rw[h2]
theorem ZCT (n:Nat)(c:Nat->Nat->Nat)(fm:List Nat){L k x s:Nat}(h:s<=k):(ZdX n c fm L k x)[s]? =some (Zam (ZcS n c fm s)):=by
 rw[ZdX,qE (by simp[Go.Cy.costL_len];omega),uI,ZqO n c fm h];rfl
theorem ZCR (n:Nat)(c:Nat->Nat->Nat)(fm:List Nat)(L k x:Nat):(ZdX n c fm L k x)[k+1]? =some (Zam x):=by
 have h:=Go.Cy.costL_len n c fm k;rw[ZdX,qF (by simp[h])];simp[h]
theorem ZCW (n:Nat)(c:Nat->Nat->Nat)(fm:List Nat){L k s:Nat}(h:s<=k):(Zfg n c fm L k)[s]? =some (Zam (ZcS n c fm s)):=by
 rw[Zfg,qE (by simp[Go.Cy.costL_len];omega),uI,ZqO n c fm h];rfl
theorem ZCY (n:Nat)(c:Nat->Nat->Nat)(fm:List Nat){L k:Nat}(h:k+1<L):(Zfg n c fm L k)[k+1]? =some (.int 0):=by
 have h1:=Go.Cy.costL_len n c fm k;rw[Zfg,qF (by simp[h1]),gH];simp[h1];omega
theorem ZCS (n:Nat)(c:Nat->Nat->Nat)(fm:List Nat)(L k:Nat):ZdX n c fm L k (Zdt n c fm k n)=Zfg n c fm L (k+1):=by
 have:Zco n c fm (k+1)=Zco n c fm k++[Zdt n c fm k n]:=rfl;rw[ZdX,Zfg,this,uQ,qK];rfl
theorem ZC0 (n:Nat)(c:Nat->Nat->Nat)(fm:List Nat){L:Nat}(h:0<L):Zfg n c fm L 0=List.replicate L (.int 0):=by
 obtain⟨k,rfl⟩:∃k,L=k+1:=⟨L-1,by omega⟩;rw[zE];rfl
theorem Zsh (n:Nat)(c:Nat->Nat->Nat)(fm:List Nat)(h8:n<=8)(hcc:∀u v,c u v<=256)(hl:fm.length=n)(hf:∀v,atN fm v<2^n):
  Zag Tryz.prog 207 [.ptr 1000 0 0 0] [(1000, .cells (.int n::Zbj c (.ref 1001 1 0 n n))),(1001, .row 1 (fm.map Zam))] (.int (ZeB n c fm)) [(1000, .cells (.int n::Zbj c (.ref 1001 1 0 n n))),(1001, .row 1 (fm.map Zam))]:=by
 have hpos:=Go.Cy.pow_pos' n;have hp8:=Go.Cy.pow_le8 h8;have hsh:=Zmc n h8;obtain⟨L,hL⟩:∃L,L=2^n:=⟨_,rfl⟩;rw[<-hL]at hpos hp8 hsh;have hx1:=Zpz c (.ref 1001 1 0 n n);refine kM Tryz.func207 ?_;intro B X w0;refine kw1 kO (kc1 hsh) kc0 ?_;refine Zaf (λ(k:Nat)=>k<L) (λ k=>[(0, .ptr 1000 0 0 0),(3, .ref 14 1 0 L L),(4, .int (k+1:Nat))]) (λ k=>[(14, .row 1 (Zfg n c fm L k)),(1000, .cells (.int n::Zbj c (.ref 1001 1 0 n n))),(1001, .row 1 (fm.map Zam))]) (λ k=>L-k) 0 ?_ ?_ ?_
 ·exact hpos
 ·exact kN (kc1 (ZC0 n c fm hpos)) []
 ·intro k hk;have hpl:=ZCX n c fm hk;rcases uE (k+1) L with hlt|hge
  ·have hset:=ZCZ n c fm 1048576 hlt;have hnx:=ZCY n c fm hlt;refine kw1 kO (kc4 hx1 hpl hset hnx) kc0 ?_;refine Zaf (λ(v:Nat)=>v<=n) (λ v=>[(0, .ptr 1000 0 0 0),(3, .ref 14 1 0 L L),(4, .int (k+1:Nat)),(27, .int n),(28, .int v)]) (λ v=>[(14, .row 1 (ZdX n c fm L k (Zdt n c fm k v))),(1000, .cells (.int n::Zbj c (.ref 1001 1 0 n n))),(1001, .row 1 (fm.map Zam))]) (λ v=>n-v) 0 ?_ ?_ ?_
   ·exact uH _
   ·exact kN (kc1 @Zwf) []
   ·intro v hv;have hkl:(ZdX n c fm L k (Zdt n c fm k v)).length=L:=ZCU n c fm hlt;rcases uE v n with hvl|hvg
    ·obtain⟨f,hfv⟩:=Zac (show v<fm.length by omega);have hfa:atN fm v=f:=by rw[atN,hfv];rfl
     have hf8:f<2^n:=by rw[<-hfa];exact hf v
     have hb:=ZDL (k+1) (by omega) v (by omega);have hsucc:=Zwe n c fm k v;by_cases hbit:(k+1).testBit v=true
     ·rw[if_pos hbit]at hb;obtain⟨p,hp⟩:∃p,p=2^v:=⟨_,rfl⟩;obtain⟨r,hr⟩:∃r,r=k+1-2^v:=⟨_,rfl⟩;have hrk:=(Go.Cy.clr (k+1) (by omega) v (by omega) hbit).1;rw[<-hr]at hrk;have hp8':p<256:=by rw[hp];exact Ba (n:=8) (by decide) (by omega)
      have e1:=Zmc v (by omega);rw[<-hp]at e1;have e2:=Zqz (a:=k+1) (b:=p) (by omega) (by omega);rw[hp,Zwl (k+1) (by omega) v (by omega) hbit,<-hr,<-hp]at e2;have e3:=Zqz (a:=f) (b:=r) (by omega) (by omega);have hz:=Zwm (b:=r) hf8;have hok:Zeu n fm (k+1) v=inB n f r:=by rw[Zeu,hbit,hfa,hr];rfl
      rw[hok]at hsucc;have hg:=ZCT n c fm (L:=L) (x:=Zdt n c fm k v) (show r<=k by omega);rcases hin:inB n f r with _|_
      ·rw[hin]at hsucc hz;have hz':¬((Zfo f r:Nat):Int)=0:=λ h=>by have:=hz.1 (by omega);cases this
       refine kw1 kO (kc8 hx1 hkl hfv hb e1 e2 e3 @hz') kc0 ?_;refine⟨v+1,?_,eL [] _ _ (by refine⟨?_,?_⟩<;>(repeat' first|exact fmn|refine fmc ⟨(by first|rfl|(simp(disch:=omega) only[go_sem,simprocAttr,inL,hsucc,if_neg kA];first|done|omega|(congr 1;done))),?_⟩);done),?_⟩
       ·omega
       ·omega
      ·rw[hin]at hsucc hz;have hz':=hz.2 rfl;have hr8:r<256:=by omega
       have hcg:Zfs n c (Zco n c fm k) (k+1) v=ZcS n c fm r+ZgK (c v) r:=by
        rw[Zfs,<-hr,Go.Cy.costL_at n c fm (by omega),Zqo h8 (by omega)];rfl
       have hcn:=ZxP n c fm r;have hsb:=ZEK (x:=r) (hcc v);refine kw1 kO (kc8 hx1 hkl hfv hb e1 e2 e3 (kc2 @hz' hg)) kc0 ?_;refine Zaf (λ(q:Nat×Nat)=>match q with|(x,y)=>x<=r/\y+ZgK (c v) x=Zfs n c (Zco n c fm k) (k+1) v) (λ(x,y)=>[(0, .ptr 1000 0 0 0),(3, .ref 14 1 0 L L),(4, .int (k+1:Nat)),(5, .int v),(7, .int y),(8, .int x),(27, .int n),(28, .int v)]) (λ(x,y)=>[(14, .row 1 (ZdX n c fm L k (Zdt n c fm k v))),(1000, .cells (.int n::Zbj c (.ref 1001 1 0 n n))),(1001, .row 1 (fm.map Zam))]) (λ(x,y)=>x) (r,ZcS n c fm r) ?_ ?_ ?_
       ·exact⟨uJ _,hcg.symm⟩
       ·exact kN kc0 []
       ·rintro⟨x,y⟩ ⟨hxr,hy⟩;dsimp only at hxr hy|-;rcases qM x with rfl|hx0
        ·rw[ZEM,gX]at hy;have hcu:=ZCR n c fm L k (Zdt n c fm k v);have hst:=ZCV n c fm L k (Zdt n c fm k v);have hmin:(if(y:Int)<(Zdt n c fm k v:Nat)then(y:Int)else(Zdt n c fm k v:Nat))=(min (Zdt n c fm k v) y:Nat):=by omega
         refine kw1 kO (kc5 hx1 hkl hcu hst hmin) kc0 ?_;refine⟨v+1,?_,kN (kc3 @hsucc @if_pos.{0} hy) [],?_⟩
         ·omega
         ·omega
        ·have htz:=Zwb x hx0 (by omega);have htn:=ZFf h8 hx0 (by omega:x<2^n);have hstep:=ZEL (f:=c v) (show x<256 by omega) hx0;have hlt2:=(Zm1 x (by omega) hx0).2.2;obtain⟨q,hq⟩:=ZvD (.int n) c (.ref 1001 1 0 n n) (show v<8 by omega) (show tz x<8 by omega);have hcv:=hcc v (tz x);have hw:=Zpx (x:=(y:Int)+(c v (tz x):Nat)) (by omega) (by omega);have hu64:IntKind.u64.wrap (x:Int)=x:=by
          have:∀x:Nat,x<256->IntKind.u64.wrap (x:Int)=x:=by decide+kernel
          exact this x (by omega)
         have hand:=Zw6 (a:=x) (b:=x-1) (by omega) (by omega);have hx1':((x:Int)-1)=((x-1:Nat):Int):=by omega
         refine kw1 kO (kc7 hx1 hkl hu64 hq hw @hx1' hand) (kc1 htz) ?_;refine⟨(x&&&(x-1),y+c v (tz x)),?_,kN kc0 [],?_⟩
         ·dsimp only;exact⟨by omega,by omega⟩
         ·exact hlt2
     ·rw[if_neg hbit]at hb;have hok:Zeu n fm (k+1) v=false:=by rw[Zeu];simp[hbit]
      rw[hok]at hsucc;refine kw1 kO (kc4 hx1 hkl hfv hb) kc0 ?_;refine⟨v+1,?_,eL [] _ _ (by refine⟨?_,?_⟩<;>(repeat' first|exact fmn|refine fmc ⟨(by first|rfl|(simp(disch:=omega) only[go_sem,simprocAttr,inL,hsucc,if_neg kA];first|done|omega|(congr 1;done))),?_⟩);done),?_⟩
      ·omega
      ·omega
    ·have:v=n:=by omega
     subst this;refine kw1 kO (kc1 hx1) kc0 ?_;refine⟨k+1,?_,kN (kc1 @ZCS) [],?_⟩
     ·omega
     ·omega
  ·have:k+1=L:=by omega
   have hlg:=ZCW n c fm (L:=L) (k:=k) (uJ k);have e1:(L:Int)-1=k:=by omega
   have e2:ZeB n c fm=ZcS n c fm k:=by rw[ZeB];congr 1;omega
   rw[e2];refine kw1 kO (kc3 hpl e1 hlg) kc0 ?_;exact rfl
end Go.Proofs.YtjjbhjnpeenbkaaGreatDoor.Cyc
namespace Go.Proofs.YtjjbhjnpeenbkaaGreatDoor.Cyc
open Go Go.PS Go.Proofs
open Go.Cy (NA InN atN ZeB cnt ZbU ZfS ZcH ZbC Zbk)
set_option maxRecDepth 100000
attribute [local irreducible] Zad wpG Zaa Zag
def castA (l:List NA):List Arc:=l.map λ a=>((a.1:Int),(a.2:Int))
theorem castA_len (l:List NA):(castA l).length=l.length:=by simp[castA]
theorem castA_get {l:List NA}{k:Nat}{a:NA}(h:l[k]? =some a):(castA l)[k]? =some ((a.1:Int),(a.2:Int)):=by simp[castA,h]
theorem ZpA (objs:Nat->Ob)(k:Nat)(c:Nat->Nat->Nat)(f:PV):(Zbj c f).flatMap (PV.refs objs k)=PV.refs objs k f:=by
 have h:∀l:List Nat,(l.map (λ i=>PV.int (c (i/8) (i%8)))).flatMap (PV.refs objs k)=[]:=by
  intro l
  induction l with
  |nil=>rfl
  |cons a l ih=>rw[uT,gK,ih];cases k<;>rfl
 rw[Zbj,List.flatMap_append,h];simp
theorem ZpB (g:Nat->Nat)(c:Nat->Nat->Nat)(f:PV):(Zbj c f).map (PV.ren g)=Zbj c (f.ren g):=by
 rw[Zbj,Zbj,uQ,gR];rfl
theorem ZFP (n:PV)(c c':Nat->Nat->Nat)(f:PV){u v:Nat}(hu:u<8)(hv:v<8)(h:∀i j,i<8->j<8->c' i j=if i=u/\j=v then c u v+1 else c i j):
  ZbX (n::Zbj c f) (1+u*8+v) [.int ((c u v:Int)+1)]=n::Zbj c' f:=by
 have e:ZbX (n::Zbj c f) (1+u*8+v) [.int ((c u v:Int)+1)]=n::ZbX (Zbj c f) (u*8+v) [.int ((c u v:Int)+1)]:=by
  rw[ZbX,ZbX,show 1+u*8+v=(u*8+v)+1 by omega,Bi];simp only[yB,uY,qT,jH];rw[show u*8+v+1+1=(u*8+v+1)+1 from rfl,Ac]
 rw[e]
 congr 1
 refine qA λ k=>?_
 rw[ZjV _ _ _ (by simp[ZkM];omega)];simp only[yB,uY,qT];rcases uE k 64 with hk|hk
 ·have hg:∀d:Nat->Nat->Nat,(Zbj d f)[k]? =some (.int (d (k/8) (k%8))):=λ d=>by
   rw[Zbj,qE (by simp;omega),uI,yR hk];rfl
  rw[hg,hg,h (k/8) (k%8) (by omega) (by omega)];by_cases hc:k=u*8+v
  ·subst hc;rw[if_neg (by omega),if_pos (by omega),if_pos (by omega)];simp
  ·rw[if_neg (show¬(k/8=u/\k%8=v) by omega)];split
   ·rfl
   ·rw[if_neg (by omega)]
 ·rw[if_neg (by omega),if_neg (by omega)];have hg:∀d:Nat->Nat->Nat,(Zbj d f)[k]? =[f][k-64]? :=λ d=>by
   rw[Zbj,qF (by simp;omega)];simp
  rw[hg,hg]
theorem ZvE (n:PV)(c:Nat->Nat->Nat)(f f':PV):ZbX (n::Zbj c f) 65 [f']=n::Zbj c f':=by
 have h:(List.map (λ i=>PV.int (c (i/8) (i%8))) (List.range 64)).length=64:=by simp
 rw[ZbX,Zbj,show 65=64+1 from rfl,Bi,List.take_left' h];simp only[yB,uY,qT];rw[kI (by simp)];simp[Zbj]
theorem ZqL (l:List NA)(a:NA)(u v:Nat):cnt (l++[a]) u v=cnt l u v+Go.Cy.ind a u v:=by
 have:=Go.Cy.cnt_cons a [] u v;simp only[cnt,gC,uG,jX,uY]at this|-;omega
theorem ZqK (l:List NA)(u v:Nat):cnt l u v<=l.length:=gN _ _
theorem Zs9 {fm:List Nat}{v u f:Nat}(h:fm[v]? =some f):(fm.map Zam).set v (.int ((f|||2^u:Nat):Int))=(ZbU fm v u).map Zam:=by
 rw[ZbU,yZ,atN,h];rfl
theorem ZsV (l:List Nat):∀d,d∈l.map Zam->d.cells.length=1:=Zlh Zam 1 (λ _=>rfl) l
theorem Zid (x:Int):∀d,d∈[D.int x]->d.cells.length=1:=by intro d hd;rw[uS]at hd;subst hd;rfl
def Zh7 (g:Gr):List Nat×Int:=if gOk g then(if 8<g.1 then([],2)else(Zbk g.1.toNat (g.2.map λ a=>(a.1.toNat,a.2.toNat)),0))else([],1)
theorem ZvR (n:Nat)(l:List NA)(h:gOk ((n:Int),castA l)=true)(hi:InN n l)(hll:l.length<=256)(h8:n<=8):Zaa Tryz.prog 156 [gD ((n:Int),castA l)] (.tup [Zbe (Zbk n l), .int 0]):=by
 have hv:Zaa Tryz.prog 97 [gD ((n:Int),castA l)] (.bool true):=h▸Zgi _;have hcl:=castA_len l;refine kE Tryz.func156 ?_;intro hat B X w0;refine kw1 kO (kc1 hcl) (kc1 hv) ?_;refine Zaf (λ(k:Nat)=>k<=l.length) (λ k=>[(1, .ptr 1 0 0 0),(4, .ptr 26 0 0 0),(28, .d (Zaj (castA l))),(29, .int l.length),(30, .int k)]) (λ k=>[(1, .cells [.int n, .d (Zaj (castA l))]),(26, .cells (.int n::Zbj (cnt (l.take k)) (.ref 24 1 0 n n))),(24, .row 1 ((List.replicate n 0).map Zam))]) (λ k=>l.length-k) 0 ?_ ?_ ?_
 ·exact uH _
 ·exact kN (kc1 @kW.{0,0}) []
 ·intro k hk;rcases uE k l.length with hlt|hge
  ·obtain⟨a,ha⟩:=Zac hlt;have hp:=castA_get ha;have hin:=hi a (uA ha);have htk:l.take (k+1)=l.take k++[a]:=ZaA ha;by_cases c:a.1=a.2
   ·have e:cnt (l.take (k+1))=cnt (l.take k):=by
     funext u v
     rw[htk,ZqL,Go.Cy.ind,if_neg (λ h=>h.1 c)];rfl
    have c':(a.1:Int)=a.2:=by omega
    refine kw1 kO (kc3 hp hcl @c') kc0 ?_;refine⟨k+1,?_,kN (kc1 e) [],?_⟩
    ·omega
    ·omega
   ·have c':¬(a.1:Int)=a.2:=by omega
    obtain⟨q,hq⟩:=ZvD (.int n) (cnt (l.take k)) (.ref 24 1 0 n n) (show a.1<8 by omega) (show a.2<8 by omega);have hle:=ZqK (l.take k) a.1 a.2;rw[yJ]at hle;have hw:=Zpx (x:=(cnt (l.take k) a.1 a.2:Int)+1) (by omega) (by omega);have hs:=ZFP (.int n) (cnt (l.take k)) (cnt (l.take (k+1))) (.ref 24 1 0 n n) (show a.1<8 by omega) (show a.2<8 by omega) (λ i j _ _=>by
     rw[htk,ZqL,Go.Cy.ind];by_cases c2:i=a.1/\j=a.2
     ·rw[if_pos c2,if_pos ⟨c,c2.1.symm,c2.2.symm⟩,c2.1,c2.2]
     ·rw[if_neg c2,if_neg (λ h=>c2 ⟨h.2.1.symm,h.2.2.symm⟩)];rfl)
    have hxl:(PV.int n::Zbj (cnt (l.take k)) (.ref 24 1 0 n n)).length=66:=by rw[yB,ZkM]
    refine kw1 kO (kc7 hp hcl @c' hq hw hs @ZkM) kc0 ?_;refine⟨k+1,?_,kN kc0 [],?_⟩
    ·omega
    ·omega
  ·have hk:k=l.length:=by omega
   subst hk;rw[yE];have hrn:(List.replicate n 0).length=n:=qW;have hc256:∀u v,cnt l u v<=256:=λ u v=>gP (ZqK l u v) hll
   have hdec:=Go.Cy.dec_all h8 hi (by omega:l.length<1048576);have hl0:=Zsh n (cnt l) (List.replicate n 0) h8 hc256 hrn (λ v=>by rw[Go.Cy.atN_rep];exact Go.Cy.pow_pos' n);refine kw1 kO (kc3 hcl @ZpA @gK.{0,0}) (kc1 (kmc [(1000,26),(1001,24)] hl0)) ?_;refine kR kc0 [(900,24)] [(1, .ptr 1 0 0 0),(4, .ptr 26 0 0 0),(7, .int (ZbC n l)),(8, .nilS),(58, .d (Zaj (castA l))),(59, .int l.length),(60, .int (0:Nat))] [(1, .cells [.int n, .d (Zaj (castA l))]),(26, .cells (.int n::Zbj (cnt l) (.ref 900 1 0 n n))),(900, .row 1 ((List.replicate n 0).map Zam))] ?_;refine Zao _ (Zcy 8 901 1 rfl rfl) ?_;refine Zaf (λ(k:Nat)=>k<=l.length) (λ k=>[(1, .ptr 1 0 0 0),(4, .ptr 26 0 0 0),(7, .int (ZbC n l)),(8, .ref 901 1 0 (ZcH n (cnt l) (ZbC n l) l k).2.length (ZcH n (cnt l) (ZbC n l) l k).2.length),(58, .d (Zaj (castA l))),(59, .int l.length),(60, .int k)]) (λ k=>[(1, .cells [.int n, .d (Zaj (castA l))]),(26, .cells (.int n::Zbj (cnt l) (.ref 900 1 0 n n))),(900, .row 1 ((ZcH n (cnt l) (ZbC n l) l k).1.map Zam)),(901, .row 1 ((ZcH n (cnt l) (ZbC n l) l k).2.map Zam))]) (λ k=>l.length-k) 0 ?_ ?_ ?_
   ·exact uH _
   ·exact kN kc0 []
   ·intro k hk;rcases uE k l.length with hlt|hge
    ·obtain⟨a,ha⟩:=Zac hlt;have hp:=castA_get ha;have hin:=hi a (uA ha);have hD:=hdec k hk;have hDs:ZcH n (cnt l) (ZbC n l) l (k+1)=ZfS n (cnt l) (ZbC n l) k a (ZcH n (cnt l) (ZbC n l) l k):=by rw[ZcH,ha]
     revert hD hDs;generalize ZcH n (cnt l) (ZbC n l) l k=st;obtain⟨fm,Dk⟩:=st;intro hD hDs;dsimp only at hD|-;have hfl:=hD.len;have hDl:Dk.length<=k:=Go.Cy.nd_le (hD.asc.imp λ h=>Dg h) hD.below;by_cases c:a.1=a.2
     ·rw[ZfS,if_pos c]at hDs;have c':(a.1:Int)=a.2:=by omega
      refine kw1 kO (kc3 hp hcl @c') kc0 ?_;refine⟨k+1,?_,kN (kc1 hDs) [],?_⟩
      ·omega
      ·omega
     ·have c':¬(a.1:Int)=a.2:=by omega
      rw[ZfS,if_neg c]at hDs;have hv1:a.1<fm.length:=by omega
      have hv2:a.2<fm.length:=by omega
      obtain⟨f1,hf1⟩:=Zac hv1;obtain⟨f2,hf2⟩:=Zac hv2;have hx1:=Zpz (cnt l) (.ref 900 1 0 n n);have hx2:=Zpz (cnt l) (.ref 77 1 0 n n);have hs1:=ZvE (.int n) (cnt l) (.ref 900 1 0 n n) (.ref 77 1 0 n n);have hs2:=ZvE (.int n) (cnt l) (.ref 77 1 0 n n) (.ref 900 1 0 n n);have hmf:(fm.map Zam).length=n:=by rw[uC,hfl]
      have hmt:(fm.map Zam).take n=fm.map Zam:=uD (by omega);have hfa1:atN fm a.1=f1:=by rw[atN,hf1];rfl
      have hfa2:atN fm a.2=f2:=by rw[atN,hf2];rfl
      have hb1:=gG (hfa1▸hD.lt a.1) (Go.Cy.pow_le8 h8);have hb2:=gG (hfa2▸hD.lt a.2) (Go.Cy.pow_le8 h8);have hq1:=Zs9 (u:=a.2) hf1;have hq2:=Zs9 (u:=a.1) hf2;obtain⟨p1,hp1⟩:∃p,p=2^a.1:=⟨_,rfl⟩;obtain⟨p2,hp2⟩:∃p,p=2^a.2:=⟨_,rfl⟩;have hb3:p1<256:=by rw[hp1];exact Ba (n:=8) (by decide) (by omega)
      have hb4:p2<256:=by rw[hp2];exact Ba (n:=8) (by decide) (by omega)
      have e1:=Zmc a.1 (by omega);have e2:=Zmc a.2 (by omega);rw[<-hp1]at e1 hq2;rw[<-hp2]at e2 hq1;have o1:=ZqA (a:=f1) (b:=p2) (by omega) (by omega);have o2:=ZqA (a:=f2) (b:=p1) (by omega) (by omega);have hl1:=Zsh n (cnt l) (ZbU fm a.1 a.2) h8 hc256 (by rw[ZbU,yP,hfl]) (Go.Cy.orAt_lt hv1 hin.2 hD.lt);by_cases c2:ZeB n (cnt l) (ZbU fm a.1 a.2)=ZbC n l
      ·rw[if_pos c2]at hDs;have c2':((ZeB n (cnt l) (ZbU fm a.1 a.2):Nat):Int)=ZbC n l:=by rw[c2]
       refine kw1 kO (kc8 hp hcl @c' hx1 hx2 hs1 @ZkM (kc8 hmf hmt @qW.{0} hfl hf1 e2 o1 (kc5 hq1 @ZpA @gK.{0,0} @c2' @Zal))) (kc1 (kmc [(1000,26),(1001,77)] hl1)) ?_;refine⟨k+1,?_,eL [(900,77),(901,106)] _ _ (by refine⟨?_,?_⟩<;>(repeat' first|exact fmn|refine fmc ⟨(by first|rfl|(simp(disch:=omega) only[go_sem,simprocAttr,inL,hDs,uG,yL,uQ,uT,yH,Ob.ren,ZpB,uT];first|done|omega|(congr 1;done))),?_⟩);done),?_⟩
       ·omega
       ·omega
      ·rw[if_neg c2]at hDs;have c2':¬((ZeB n (cnt l) (ZbU fm a.1 a.2):Nat):Int)=ZbC n l:=by omega
       refine kw1 kO (kc8 hp hcl @c' hx1 hx2 hs1 hs2 (kc8 @ZkM hmf hmt @qW.{0} hfl hf1 hf2 (kc8 e1 e2 o1 o2 hq1 hq2 @ZpA (kc3 @ZpB @gK.{0,0} @c2')))) (kc1 (kmc [(1000,26),(1001,77)] hl1)) ?_;refine⟨k+1,?_,eL [] _ _ (by refine⟨?_,?_⟩<;>(repeat' first|exact fmn|refine fmc ⟨(by first|rfl|(simp(disch:=omega) only[go_sem,simprocAttr,inL,hDs,Ob.ren,ZpB,uT];first|done|omega|(congr 1;done))),?_⟩);done),?_⟩
       ·omega
       ·omega
    ·have hk:k=l.length:=by omega
     subst hk;refine kw1 kO kc0 kc0 ?_;exact⟨_,rfl,ZbF (o:=901) rfl rfl (by simp) (by rw[uD (by simp)];rfl),Zai rfl,trivial⟩
end Go.Proofs.YtjjbhjnpeenbkaaGreatDoor.Cyc
namespace Go.Proofs.YtjjbhjnpeenbkaaGreatDoor.Cyc
open Go Go.PS Go.Proofs
set_option maxRecDepth 100000
attribute [local irreducible] Zad wpG Zaa Zag
open Go.Cy (NA InN)
end Go.Proofs.YtjjbhjnpeenbkaaGreatDoor.Cyc
namespace Go.Proofs.YtjjbhjnpeenbkaaGreatDoor.Cyc
open Go Go.PS Go.Proofs
open Go.Cy (NA InN Acy inC hds Kahn KahnI)
set_option maxRecDepth 100000
attribute [local irreducible] Zad wpG Zaa Zag
noncomputable def ZmF (l:List NA):Bool:= @decide (Acy l) (Classical.propDecidable _)
theorem Zwg {l:List NA}:ZmF l=true↔Acy l:=by rw[ZmF];exact @decide_eq_true_iff _ (Classical.propDecidable _)
def Zb1 (n:Nat)(f:Nat->Nat):List D:=(List.range n).map λ w=>Zam (f w)
theorem Zfz (n:Nat)(f:Nat->Nat):(Zb1 n f).length=n:=by simp[Zb1]
theorem Zga {n:Nat}(f:Nat->Nat){i:Nat}(h:i<n):(Zb1 n f)[i]? =some (Zam (f i)):=by
 rw[Zb1,uI,yR h];rfl
theorem Zuk {n:Nat}{f f':Nat->Nat}{i x:Nat}(h:∀w,w<n->f' w=if w=i then x else f w):(Zb1 n f).set i (Zam x)=Zb1 n f':=by
 refine qA λ k=>?_
 rw[qL,Zfz];rcases uE k n with hk|hk
 ·rw[Zga f' hk,h k hk];by_cases c:i=k
  ·subst c;simp[hk]
  ·rw[if_neg c,if_neg (Ne.symm c),Zga f hk]
 ·rw[uN (by rw[Zfz];exact hk:(Zb1 n f').length<=k),uN (by rw[Zfz];exact hk:(Zb1 n f).length<=k)];split
  ·rw[if_neg (by omega)]
  ·rfl
end Go.Proofs.YtjjbhjnpeenbkaaGreatDoor.Cyc
namespace Go.Proofs.YtjjbhjnpeenbkaaGreatDoor.Cyc
open Go Go.PS Go.Proofs
open Go.Cy (NA InN Acy Zfm Za5 Asc)
set_option maxRecDepth 100000
attribute [local irreducible] Zad wpG Zaa Zag
abbrev Zgk (s:List Nat):List Int:=s.map λ x:Nat=>(x:Int)
theorem Zxe {s:List Nat}{i x:Nat}(h:s[i]? =some x):(Zgk s)[i]? =some (x:Int):=by simp[h]
theorem Zzu (s:List Nat):Zab (Zgk s)=Zbe s:=by simp[Zab,Zbe,Function.comp]
def ati (s:List Int)(i:Nat):Int:=(s[i]?).getD 0
def Zs6 (l:List NA)(s:List Int)(i:Nat):Bool:=match s[i]? with
 |some e=>decide (0<=e)&&(match l[e.toNat]? with|some a=> !decide (a.1=a.2)|none=>false)&&(decide (i=0)||decide (ati s (i-1)<e))
 |none=>true
def okS (l:List NA)(s:List Int):Bool:=Zdu (Zs6 l s) s.length
theorem ZyN (l:List NA)(t:List Nat):Zfv (castA l) (Zgk t)=castA (Za5 l t):=by
 refine qA λ k=>?_
 rcases uE k l.length with h|h
 ·obtain⟨a,ha⟩:=Zac h;rw[ZjR (castA_get ha),castA_get (Go.Cy.flipN_get ha)];have:Ze7 (Zgk t) (k:Int)=decide (k∈t):=by
   rw[qV];simp only[Ze7,gF,uF,uP];constructor
   ·rintro⟨x,⟨y,hy,rfl⟩,h2⟩;have:y=k:=by omega
    exact this▸hy
   ·intro hk;exact⟨_,⟨k,hk,rfl⟩,rfl⟩
  rw[this];by_cases c:k∈t
  ·simp[c,Zmm]
  ·simp[c]
 ·rw[uN (by rw[Zh2,castA_len];exact h),uN (by rw[castA_len,Go.Cy.flipN_len];exact h)]
theorem Zz3 {l:List NA}{t:List Nat}(h:Zfm l t):Zgx (Zgk t) l.length=0:=by
 have key:∀k,k<=t.length->Zd9 (ZgU (Zgk t) l.length) k=0:=by
  intro k
  induction k with
  |zero=>intro _;rfl
  |succ k ih=>
   intro hk;refine Zrp (ih (by omega)) ?_;obtain⟨x,hx⟩:=Zac (show k<t.length by omega);obtain⟨a,ha,hn⟩:=h.2 x (uA hx);have hxl:=(uB.1 ha).1;simp only[ZgU,Zxe hx];rw[if_neg (by omega),if_neg];simp only[Ze7,gF,uF,not_exists,not_and];rintro y hy rfl;rw[Zgk,<-Ap]at hy;obtain⟨z,hz,he⟩:=uP.1 hy;obtain⟨i,hi⟩:=yV.1 hz;rw[qH]at hi;split at hi
   ·rename_i hik;have hi2:=uB.1 hi;have hx2:=uB.1 hx;have:=(gO.1 h.1) i k hi2.1 hx2.1 hik;rw[hi2.2,hx2.2]at this;omega
   ·cases hi
 have:=key t.length (uJ _);rw[Zgx,uC];exact this
end Go.Proofs.YtjjbhjnpeenbkaaGreatDoor.Cyc
namespace Go.Proofs.YtjjbhjnpeenbkaaGreatDoor.Cyc
open Go Go.PS Go.Proofs
open Go.Cy (NA InN cnt ZfS ZcH ZbC Zbk Za5 Zfm Asc)
set_option maxRecDepth 100000
attribute [local irreducible] Zad wpG Zaa Zag
theorem ZqT (n:Nat)(c:Nat->Nat->Nat)(z:Nat)(l:List NA):∀k,k<=l.length->Asc (ZcH n c z l k).2/\∀i,i∈(ZcH n c z l k).2->i<k/\∃a,l[i]? =some a/\a.1≠a.2:=by
 intro k
 induction k with
 |zero=>intro _;exact⟨List.Pairwise.nil,λ i hi=>by cases hi⟩
 |succ k ih=>
  intro hk;obtain⟨h1,h2⟩:=ih (by omega);obtain⟨a,ha⟩:=Zac (show k<l.length by omega);rw[ZcH,ha];dsimp only;rw[ZfS];have h3:∀i,i∈(ZcH n c z l k).2->i<k+1/\∃a,l[i]? =some a/\a.1≠a.2:=λ i hi=>⟨by have:=(h2 i hi).1;omega,(h2 i hi).2⟩
  by_cases e:a.1=a.2
  ·rw[if_pos e];exact⟨h1,h3⟩
  ·rw[if_neg e];split
   ·refine⟨?_,λ i hi=>?_⟩
    ·refine gE.2 ⟨h1,zC _ _,λ x hx y hy=>?_⟩;rw[uS]at hy;have:=(h2 x hx).1;omega
    ·rcases yK.1 hi with hi|hi
     ·exact h3 i hi
     ·rw[uS]at hi;subst hi;exact⟨by omega,a,ha,e⟩
   ·exact⟨h1,h3⟩
theorem Zsg (n:Nat)(l:List NA):Zfm l (Zbk n l):=
 ⟨(ZqT n (cnt l) (ZbC n l) l l.length (uJ _)).1,λ i hi=>((ZqT n (cnt l) (ZbC n l) l l.length (uJ _)).2 i hi).2⟩
theorem ZyJ {n:Nat}{l:List NA}{t:List Nat}(h:gOk ((n:Int),castA l)=true)(ht:Zfm l t):Zaa Tryz.prog 158 [gD ((n:Int),castA l),Zbe t] (.tup [gD ((n:Int),castA (Za5 l t)), .int 0]):=by
 have hF:=ZvO ((n:Int),castA l) (Zgk t);have eF:ZfW ((n:Int),castA l) (Zgk t)=(((n:Int),castA (Za5 l t)),0):=by
  have h2:=Zz3 ht;rw[ZfW,if_pos h];simp only[castA_len,h2,if_true,ZyN]
 rw[eF,Zzu]at hF;exact hF
theorem Break8 (n:Nat)(l:List NA)(h:gOk ((n:Int),castA l)=true)(hi:InN n l)(hll:l.length<=256)(h8:n<=8):Zaa Tryz.prog 94 [gD ((n:Int),castA l)] (.tup [Zbe (Zbk n l),gD ((n:Int),castA (Za5 l (Zbk n l)))]):=by
 have hF:=ZyJ h (Zsg n l);have hl:=ZvR n l h hi hll h8;refine kE Tryz.func94 ?_;intro hat B X w0;refine kw1 kO kc0 (kc2 hl hF) ?_;refine⟨_,rfl,?_,⟨_,_,_,_,rfl,?_⟩,trivial⟩
 ·rfl
 ·simp(disch:=omega) only[go_sem,simprocAttr]
end Go.Proofs.YtjjbhjnpeenbkaaGreatDoor.Cyc
namespace Go.Proofs.YtjjbhjnpeenbkaaGreatDoor.Cyc
open Go Go.PS Go.Proofs
open Go.Cy (NA InN ZcL Zdz Zdy Zef)
set_option maxRecDepth 100000
attribute [local irreducible] Zad wpG Zaa Zag
def Zfx (n:Nat)(S:List Nat):List D:=(List.range n).map λ w=> .bool (decide (w∈S))
theorem Zgw (n:Nat)(S:List Nat):(Zfx n S).length=n:=by simp[Zfx]
theorem ZnM {n:Nat}(S:List Nat){i:Nat}(h:i<n):(Zfx n S)[i]? =some (.bool (decide (i∈S))):=by
 rw[Zfx,uI,yR h];rfl
theorem Zx3 (l:List NA)(S:List Nat)(a:NA)(v:Nat):Zdz (l++[a]) S v=Zdz l S v+(ZcL S a&&decide (a.1=v)).toNat:=by
 simp only[Zdz,gC,uG,jP,jX];cases ZcL S a&&decide (a.1=v)<;>rfl
theorem Zx1 (l:List NA)(S:List Nat)(a:NA)(v:Nat):Zdy (l++[a]) S v=Zdy l S v+(ZcL S a&&decide (a.2=v)).toNat:=by
 simp only[Zdy,gC,uG,jP,jX];cases ZcL S a&&decide (a.2=v)<;>rfl
theorem Zx2 (l:List NA)(S:List Nat)(v:Nat):Zdz l S v<=l.length:=gN _ _
theorem Zx0 (l:List NA)(S:List Nat)(v:Nat):Zdy l S v<=l.length:=gN _ _
theorem Zx4 (n:Nat)(l:List NA)(S:List Nat)(v:Nat)(hi:InN n l)(hll:l.length<=256):
  Zaa Tryz.prog 238 [gD ((n:Int),castA l), .sl (Zfx n S), .int v] (.tup [.int (Zdz l S v), .int (Zdy l S v)]):=by
 have hcl:=castA_len l;refine kE Tryz.func238 ?_;intro hat B X w0;refine kw1 kO (kc1 hcl) kc0 ?_;refine Zaf (λ(k:Nat)=>k<=l.length) (λ k=>[(1, .d (.sl (Zfx n S))),(2, .int v),(3, .ptr 3 0 0 0),(6, .int (Zdz (l.take k) S v)),(7, .int (Zdy (l.take k) S v)),(11, .d (Zaj (castA l))),(12, .int l.length),(13, .int k)]) (λ k=>[(3, .cells [.int n, .d (Zaj (castA l))])]) (λ k=>l.length-k) 0 ?_ ?_ ?_
 ·exact uH _
 ·exact kN kc0 []
 ·intro k hk;rcases uE k l.length with hlt|hge
  ·obtain⟨a,ha⟩:=Zac hlt;have hp:=castA_get ha;have hin:=hi a (uA ha);have g1:=ZnM S hin.1;have g2:=ZnM S hin.2;have hO:Zdz (l.take (k+1)) S v=Zdz (l.take k) S v+(ZcL S a&&decide (a.1=v)).toNat:=by rw[ZaA ha];exact Zx3 _ _ _ _
   have hB:Zdy (l.take (k+1)) S v=Zdy (l.take k) S v+(ZcL S a&&decide (a.2=v)).toNat:=by rw[ZaA ha];exact Zx1 _ _ _ _
   have b1:=Zx2 (l.take k) S v;have b2:=Zx0 (l.take k) S v;rw[yJ]at b1 b2;by_cases d1:a.1=a.2
   ·have e:ZcL S a=false:=by simp[ZcL,d1]
    rw[e]at hO hB;have d1':((a.1:Nat):Int)=(a.2:Nat):=by omega
    refine kw1 kO (kc3 hp hcl @d1') kc0 ?_;refine⟨k+1,?_,kN (kc4 hO hB @Af @Aj) [],?_⟩
    ·omega
    ·omega
   ·have d1':¬((a.1:Nat):Int)=(a.2:Nat):=by omega
    by_cases d2:a.1∈S
    ·by_cases d3:a.2∈S
     ·have e:ZcL S a=true:=by simp[ZcL,d1,d2,d3]
      rw[yD d2]at g1;rw[yD d3]at g2;rw[e]at hO hB;by_cases d4:v=a.1
      ·subst d4;have d5':¬((a.2:Nat):Int)=(a.1:Nat):=by omega
       have d5:decide (a.2=a.1)=false:=by simp;omega
       rw[d5]at hB;rw[yD rfl]at hO;refine kw1 kO (kc7 hp hcl @d1' g1 g2 @Zgw @d5') kc0 ?_;refine⟨k+1,?_,kN (kc6 hO hB @Ag @Bool.and_self @Aj @Bool.toNat_true) [],?_⟩
       ·omega
       ·omega
      ·by_cases d5:v=a.2
       ·subst d5;have d4'':decide (a.1=a.2)=false:=by simp;omega
        rw[d4'']at hO;rw[yD rfl]at hB;refine kw1 kO (kc6 hp hcl @d1' g1 g2 @Zgw) kc0 ?_;refine⟨k+1,?_,kN (kc6 hO hB @Ag @Bool.and_self @Aj @Bool.toNat_true) [],?_⟩
        ·omega
        ·omega
       ·have d4':¬((a.1:Nat):Int)=(v:Nat):=by omega
        have d5':¬((a.2:Nat):Int)=(v:Nat):=by omega
        have d4'':decide (a.1=v)=false:=by simp;omega
        have d5'':decide (a.2=v)=false:=by simp;omega
        rw[d4'']at hO;rw[d5'']at hB;refine kw1 kO (kc8 hp hcl @d1' g1 g2 @Zgw @d4' @d5') kc0 ?_;refine⟨k+1,?_,kN (kc4 hO hB @Ag @Aj) [],?_⟩
        ·omega
        ·omega
     ·have e:ZcL S a=false:=by simp[ZcL,d3]
      rw[yD d2]at g1;rw[uV d3]at g2;rw[e]at hO hB;refine kw1 kO (kc6 hp hcl @d1' g1 g2 @Zgw) kc0 ?_;refine⟨k+1,?_,kN (kc4 hO hB @Af @Aj) [],?_⟩
      ·omega
      ·omega
    ·have e:ZcL S a=false:=by simp[ZcL,d2]
     rw[uV d2]at g1;rw[e]at hO hB;refine kw1 kO (kc5 hp hcl @d1' g1 @Zgw) kc0 ?_;refine⟨k+1,?_,kN (kc4 hO hB @Af @Aj) [],?_⟩
     ·omega
     ·omega
  ·have hk:k=l.length:=by omega
   subst hk;rw[yE];refine kw1 kO (kc1 hcl) kc0 ?_;exact⟨_,rfl,rfl,rfl,trivial⟩
theorem ZrP (n:Nat)(S:List Nat):(Zfx n S).take n=Zfx n S:=uD (by rw[Zgw];exact uJ n)
def ZA3 :Option Nat->Int
 |some v=>v
 |none=>-1
theorem Zty (S:List Nat)(p:Nat->Bool){k:Nat}(h:Zef k S p=none)(h2:(decide (k∈S)&&p k)=false):Zef (k+1) S p=none:=by
 rw[Zef,qN,List.find?_append];rw[Zef]at h;rw[h];simp only[List.find?_cons,h2];rfl
theorem ZBA (S:List Nat)(p:Nat->Bool){n k:Nat}(hk:k<n)(h:Zef k S p=none)(h2:(decide (k∈S)&&p k)=true):Zef n S p=some k:=by
 have e:List.range n=List.range k++k::(List.range (n-(k+1))).map (k+1+·):=by
  have h1:List.range n=List.range (k+1)++(List.range (n-(k+1))).map (k+1+·):=by
   rw[<-List.range_add];congr 1;omega
  rw[h1,qN,qK];rfl
 rw[Zef]at h;rw[Zef,e,List.find?_append,h];simp only[List.find?_cons,h2];rfl
theorem ZiV (n:Nat)(l:List NA)(S:List Nat)(f:Nat)(p:Nat->Nat->Bool)(hi:InN n l)(hn:n<=64)(hll:l.length<=256)(hf:∀o b:Nat,Zaa Tryz.prog f [.int o, .int b] (.bool (p o b))):
  Zag Tryz.prog 237 [.d (.fn f []), .ptr 1000 0 0 0, .ptr 1001 0 0 0] [(1000, .cells [.int n, .d (Zaj (castA l))]),(1001, .cells [.ref 1002 1 0 n n]),(1002, .row 1 (Zfx n S))] (.int (ZA3 (Zef n S λ v=>p (Zdz l S v) (Zdy l S v)))) [(1000, .cells [.int n, .d (Zaj (castA l))]),(1001, .cells [.ref 1002 1 0 n n]),(1002, .row 1 (Zfx n S))]:=by
 refine kM Tryz.func237 ?_;intro B X w0;refine kw1 kO kc0 kc0 ?_;refine Zaf (λ(k:Nat)=>k<=n/\Zef k S (λ v=>p (Zdz l S v) (Zdy l S v))=none) (λ k=>[(0, .d (.fn f [])),(1, .ptr 1000 0 0 0),(2, .ptr 1001 0 0 0),(7, .int n),(8, .int k)]) (λ k=>[(1000, .cells [.int n, .d (Zaj (castA l))]),(1001, .cells [.ref 1002 1 0 n n]),(1002, .row 1 (Zfx n S))]) (λ k=>n-k) 0 ?_ ?_ ?_
 ·exact⟨uH _,rfl⟩
 ·exact kN kc0 []
 ·rintro k ⟨hk,hinv⟩;rcases uE k n with hlt|hge
  ·have hg:=ZnM S hlt;by_cases c1:k∈S
   ·rw[yD c1]at hg;have hd:=Zx4 n l S k hi hll;have hp:=hf (Zdz l S k) (Zdy l S k);rcases hb:p (Zdz l S k) (Zdy l S k)with _|_
    ·rw[hb]at hp;refine kw1 kO (kc3 hg @Zgw @ZrP) (kc2 hd hp) ?_;refine⟨k+1,?_,kN kc0 [],?_⟩
     ·exact⟨by omega,Zty S _ hinv (by rw[hb,Ag])⟩
     ·omega
    ·rw[hb]at hp;rw[ZBA S _ hlt hinv (by rw[hb,yD c1];rfl)];refine kw1 kO (kc3 hg @Zgw @ZrP) (kc2 hd hp) ?_;exact rfl
   ·rw[uV c1]at hg;refine kw1 kO (kc2 hg @Zgw) kc0 ?_;refine⟨k+1,?_,kN kc0 [],?_⟩
    ·exact⟨by omega,Zty S _ hinv (by rw[uV c1];rfl)⟩
    ·omega
  ·have hk:n=k:=by omega
   subst hk;rw[hinv];refine kw1 kO kc0 kc0 ?_;exact rfl
end Go.Proofs.YtjjbhjnpeenbkaaGreatDoor.Cyc
namespace Go.Proofs.YtjjbhjnpeenbkaaGreatDoor.Cyc
open Go Go.PS Go.Proofs
open Go.Cy (NA InN bwd Zgj ZaY Zbk Za5 Zfm)
open Go.Bd (Part)
set_option maxRecDepth 100000
attribute [local irreducible] Zad wpG Zaa Zag
def plF (R:List Nat)(k w:Nat):Nat:=if R.idxOf w<k then R.idxOf w else 0
theorem ZtD (n:Nat)(R:List Nat):List.replicate n (D.int 0)=Zb1 n (plF R 0):=by
 refine qA λ k=>?_
 rw[gH];rcases uE k n with hk|hk
 ·rw[Zga _ hk,if_pos hk];rfl
 ·rw[uN (by rw[Zfz];exact hk:(Zb1 n _).length<=k),if_neg (by omega)]
theorem Zza {R:List Nat}(hn:R.Nodup){k v:Nat}(h:R[k]? =some v):R.idxOf v=k:=by
 obtain⟨h1,h2⟩:=uB.1 h;have hm:=uA h;have h3:=gS hm;have h4:=zN h3;exact(List.getElem_inj (h₀:=h3) (h₁:=h1) hn).1 (h4.trans h2.symm)
theorem ZtE {R:List Nat}(hn:R.Nodup){k v:Nat}(h:R[k]? =some v)(w:Nat):plF R (k+1) w=if w=v then k else plF R k w:=by
 have hi:=Zza hn h;by_cases c:w=v
 ·subst c;rw[if_pos rfl,plF,hi,if_pos (by omega)]
 ·rw[if_neg c,plF,plF];by_cases c2:R.idxOf w<k
  ·rw[if_pos c2,if_pos (by omega)]
  ·rw[if_neg c2];split
   ·have h3:R.idxOf w=k:=by omega
    obtain⟨h1,h2⟩:=uB.1 h;exfalso;apply c;have h4:R.idxOf w<R.length:=by omega
    have h5:=zN h4;simp only[h3]at h5;rw[<-h5,h2]
   ·rfl
theorem ZlX {n:Nat}{R:List Nat}(h:Part n 0 R){w:Nat}(hw:w<n):plF R R.length w=R.idxOf w:=by
 rw[plF,if_pos (gS (Go.Cy.Part.mem h hw))]
def Zet (M:List Nat)(l:List NA)(k:Nat):List Nat:=(List.range k).filter (Zgj M l)
theorem Zqe (M:List Nat){l:List NA}{k:Nat}{a:NA}(h:l[k]? =some a):Zet M l (k+1)=if bwd M a then Zet M l k++[k]else Zet M l k:=by
 rw[Zet,qN,gC,jP,Zgj,h];cases hb:bwd M a<;>simp[Zet,hb]
theorem Zqd (M:List Nat)(l:List NA)(k:Nat):(Zet M l k).length<=k:=gP (gN _ _) (by simp)
end Go.Proofs.YtjjbhjnpeenbkaaGreatDoor.Cyc
