/- Copies of lists of arcs; the turning of arcs. -/
import Derived.Test.YtjjbhjnpeenbkaaGreatDoorDgB
import Derived.Test.YtjjbhjnpeenbkaaGreatDoorPSEnd
import Derived.Test.YtjjbhjnpeenbkaaGreatDoorPSCmp
import Derived.Test.YtjjbhjnpeenbkaaGreatDoorPSHeap
set_option linter.unusedSimpArgs false
set_option linter.unusedVariables false
set_option maxHeartbeats 16000000
namespace Go.Proofs.YtjjbhjnpeenbkaaGreatDoor.Cyc
open Go Go.PS Go.Proofs
set_option maxRecDepth 100000
attribute [local irreducible] Zad wpG Zaa Zah
theorem Zwu :Zaa Tryz.prog 210 [Zal []] (Zal []):=by
 refine kE Tryz.func210 ?_;intro hat B X w0;refine kw1 kO kc0 kc0 ?_;refine Zkb 4 rfl ?_;intro b;cases b
 ·refine kw1 (kow (Nat.beq 5) (b:=true)) kc0 kc0 ?_;exact ZdB rfl
 ·refine kw1 kO kc0 kc0 ?_;exact ZdB rfl
theorem Zk1 (l:List Arc)(hl:l≠[])(hn:l.length<=1000000):Zah Tryz.prog 210 [.d (Zal l)] [(2000, .dead)] (.ref 2000 2 0 l.length l.length) [(2000, .row 2 (l.map ZaX))]:=by
 have he:(l.map ZaX).isEmpty=false:=by simpa using hl
 have hpos:0<l.length:=Ae.2 hl;refine kM Tryz.func210 ?_;intro B X w0;refine kw1 (kow (Nat.beq 5) (b:=false)) (kc2 he @Zan) kc0 ?_;refine eR [(2000,7)] [(2, .ref 2000 2 0 _ _)] [(2000, .row 2 _)] (by refine⟨?_,?_⟩<;>(repeat' first|exact fmn|refine fmc ⟨(by first|rfl|(simp(disch:=omega) only[go_sem,simprocAttr,inL];first|done|omega|(congr 1;done))),?_⟩);done) ?_;refine Za0 ?_;exact⟨rfl,uO.2 ⟨rfl,yC _⟩⟩
def ZlX (a:Arc):Arc:=(a.2,a.1)
def Zfm (l:List Arc)(set:List Int):List Arc:=l.mapIdx λ i a=>if ZeX set i then ZlX a else a
theorem ZhS (l:List Arc)(set:List Int):(Zfm l set).length=l.length:=by simp[Zfm]
theorem Zjz {l:List Arc}{set:List Int}{k:Nat}{a:Arc}(h:l[k]? =some a):(Zfm l set)[k]? =some (if ZeX set k then ZlX a else a):=by
 simp[Zfm,List.getElem?_mapIdx,h]
theorem Zxw (l:List Arc):Zfm l []=l:=by
 refine yS λ u=>?_
 rcases uC u l.length with h|h
 ·obtain⟨a,ha⟩:=Zac h;rw[Zjz ha,ha];simp[ZeX]
 ·rw[uL (by rw[ZhS];exact h),uL h]
theorem ZxQ {set:List Int}{j:Nat}{x:Int}(hx:set[j]? =some x)(n:Int):ZeX (set.take (j+1)) n=(ZeX (set.take j) n||decide (x=n)):=by
 simp[ZeX,ZaA hx]
theorem ZxA {l:List Arc}{set:List Int}{j i:Nat}{a:Arc}(hx:set[j]? =some (i:Int))(ha:l[i]? =some a):
  Zfm l (set.take (j+1))=(Zfm l (set.take j)).set i (ZlX a):=by
 refine yS λ u=>?_
 rcases uC u l.length with h|h
 ·obtain⟨b,hb⟩:=Zac h;rw[Zjz hb,ZxQ hx,yX,Zjz hb,ZhS];by_cases hi:i=u
  ·subst hi;rw[ha]at hb;cases hb;simp[h]
  ·have:¬(i:Int)=u:=by omega
   simp[hi,this]
 ·rw[uL (by rw[ZhS];exact h),uL (by rw[yJ,ZhS];exact h)]
theorem Zxr {e:Nat->Int}{n k:Nat}(h:Zd2 e n=0)(hk:k<n):e k=0:=by
 induction n with
 |zero=>omega
 |succ n ih=>
  simp only[Zd2]at h;split at h
  ·rename_i h0;rcases qB.1 hk with h1|rfl
   ·exact ih h0 h1
   ·exact h
  ·rename_i h0;exact(h0 h).elim
theorem ZrG {l:List Int}{n:Int}(h:Zgz l n=0){k:Nat}{x:Int}(hx:l[k]? =some x):0<=x/\x<n:=by
 have:=Zxr h (uB.1 hx).1;simp only[ZgW,hx]at this;split at this
 ·omega
 ·omega
def ZfX (g:Gr)(set:List Int):Gr×Int:=if gOk g then(if Zgz set g.2.length=0 then((g.1,Zfm g.2 set),0)else((0,[]),Zgz set g.2.length))else((0,[]),1)
theorem ZuJ (g:Gr)(set:List Int):Zaa Tryz.prog 158 [gD g,Zab set] (.tup [gD (ZfX g set).1, .int (ZfX g set).2]):=by
 rcases h:gOk g with _|_
 ·have hv:Zaa Tryz.prog 97 [gD g] (.bool false):=h▸Zgg g;have e:ZfX g set=((0,[]),1):=by simp[ZfX,h]
  rw[e];refine kE Tryz.func158 ?_;intro hat B X w0;refine kw1 kO kc0 (kc1 hv) ?_;refine⟨_,rfl,⟨_,_,_,_,rfl,?_⟩,Zaf ?_,trivial⟩
  ·simp(disch:=omega) only[go_sem,simprocAttr];rfl
  ·rfl
 ·have hv:Zaa Tryz.prog 97 [gD g] (.bool true):=h▸Zgg g;obtain⟨h1,h2,h3,h4⟩:=ZjB h;obtain⟨n,l⟩:=g;dsimp only at h1 h2 h3 h4;have hs:=ZyS set l.length;rcases jC (Zgz set l.length=0)with c|c
  ·have e:ZfX (n,l) set=((n,Zfm l set),0):=by simp[ZfX,h,c]
   rw[e];rw[c]at hs;rcases jC (l=[])with hl0|hl0
   ·subst hl0;have hse:set=[]:=by
     cases set with
     |nil=>rfl
     |cons x t=>
      have:=ZrG (x:=x) (k:=0) c rfl;simp at this;omega
    subst hse;refine kE Tryz.func158 ?_;intro hat B X w0;have hcl:=Zwu;refine kw1 kO kc0 (kc3 hv hs hcl) ?_;refine Zae (λ(k:Nat)=>k=0) (λ k=>[(4, .ptr 4 0 0 0),(7, .ptr 7 0 0 0),(30, .int 0),(31, .int k)]) (λ k=>[(4, .cells [.int 0, .nilS]),(7, .cells [.int n, .d (.sl [])])]) (λ k=>k) 0 ?_ ?_ ?_
    ·rfl
    ·exact kN kc0 []
    ·rintro k rfl;refine kw1 kO kc0 kc0 ?_;refine⟨_,rfl,⟨_,_,_,_,rfl,?_⟩,Zaf ?_,trivial⟩
     ·simp(disch:=omega) only[go_sem,simprocAttr];rfl
     ·rfl
   ·have hcl:=Zk1 l hl0 (by omega);refine kE Tryz.func158 ?_;intro hat B X w0;have hsl:=ZaY 1 hat rfl;rw[uD]at hsl;refine kw1 kO kc0 (kc3 hv hs (kmc [(2000,27)] hcl)) ?_;refine Zae (λ(k:Nat)=>k<=set.length) (λ k=>[(2, .ptr 2 0 0 0),(4, .ptr 4 0 0 0),(7, .ptr 7 0 0 0),(29, .d (Zab set)),(30, .int set.length),(31, .int k)]) (λ k=>[(2, .cells [.int n, .d (Zal l)]),(4, .cells [.int 0, .nilS]),(7, .cells [.int n, .ref 27 2 0 l.length l.length]),(27, .row 2 ((Zfm l (set.take k)).map ZaX))]) (λ k=>set.length-k) 0 ?_ ?_ ?_
    ·exact uG _
    ·exact kN (kc2 @yU.{0} @Zxw) []
    ·intro k hk;rcases uC k set.length with hlt|hge
     ·obtain⟨x,hx⟩:=Zac hlt;have hxi:=ZrG c hx;obtain⟨i,rfl⟩:∃i:Nat,x=i:=⟨x.toNat,by omega⟩;obtain⟨p,hp⟩:=Zac (show i<l.length by omega);have hg:=Zjz (set:=set.take k) hp;have hstep:=ZxA hx hp;have hlen:=ZhS l (set.take k);refine kw1 kO (kc4 hx hp hg hlen) kc0 ?_;refine⟨k+1,?_,kN (kc2 @hstep @yR.{0,0}) [],?_⟩
      ·omega
      ·omega
     ·refine kw1 kO kc0 kc0 ?_;have:k=set.length:=by omega
      subst this;refine⟨_,rfl,⟨_,_,_,_,rfl,?_⟩,Zaf ?_,trivial⟩
      ·simp(disch:=omega) only[go_sem,simprocAttr];simp[toD,gD,Zal,ZhS,uE]
      ·rfl
  ·have e:ZfX (n,l) set=((0,[]),Zgz set l.length):=by simp[ZfX,h,c]
   rw[e];refine kE Tryz.func158 ?_;intro hat B X w0;refine kw1 kO kc0 (kc2 hv hs) ?_;refine⟨_,rfl,⟨_,_,_,_,rfl,?_⟩,Zaf ?_,trivial⟩
   ·simp(disch:=omega) only[go_sem,simprocAttr];rfl
   ·rfl
open Go.Cy (NA)
def tzF :Nat->Nat->Nat
 |0,_=>0
 |f+1,x=>if x%2=1 then 0 else tzF f (x/2)+1
def tz (x:Nat):Nat:=tzF 8 x
theorem ZDF :tabs Tryz.prog=[(1,Zeq)]:=by kernel_rfl
theorem ZDE :(ZfA [(1,Zeq)] 1).length=64:=by decide+kernel
def tzI (x:Nat):Nat:=((IntKind.u64.wrap (IntKind.u64.wrap ((BitVec.ofInt 64 (x:Int)&&&BitVec.ofInt 64 (IntKind.u64.wrap (-(x:Int)))).toNat:Int)*285870213051353865)).fdiv (2^min 58 64)).toNat
theorem ZDW :∀x:Nat,x<256->0<x->(IntKind.u64.wrap (IntKind.u64.wrap ((BitVec.ofInt 64 (x:Int)&&&BitVec.ofInt 64 (IntKind.u64.wrap (-(x:Int)))).toNat:Int)*285870213051353865)).fdiv (2^min 58 64)=(tzI x:Int)/\tzI x<64/\Zeq[tzI x]? =some (tz x:Int):=by decide+kernel
theorem ZDX {k:Nat}{v:Int}(h:Zeq[k]? =some v):(ZfA [(1,Zeq)] 1).drop k=D.sc (.int .u8 v)::(ZfA [(1,Zeq)] 1).drop (k+1):=by
 have h1:(ZfA [(1,Zeq)] 1)[k]? =some (D.sc (.int .u8 v)):=by
  show(Zeq.map λ v=>D.sc (.int .u8 v))[k]? =_;rw[uJ,h];rfl
 obtain⟨h2,h3⟩:=uB.1 h1;rw[qS h2,h3]
theorem Zu0 (x:Nat)(h0:0<x)(h1:x<256):Zaa Tryz.prog 261 [.sc (.int .u64 x)] (.int (tz x)):=by
 obtain⟨k,e1,e2,e3⟩:∃k:Nat,(IntKind.u64.wrap (IntKind.u64.wrap ((BitVec.ofInt 64 (x:Int)&&&BitVec.ofInt 64 (IntKind.u64.wrap (-(x:Int)))).toNat:Int)*285870213051353865)).fdiv (2^min 58 64)=(k:Int)/\k<64/\Zeq[k]? =some (tz x:Int):=⟨_,ZDW x h1 h0⟩;have e4:=ZDX e3;have e5:(0:Int)<=k:=Int.natCast_nonneg _;have e6:IntKind.i64.wrap (tz x:Int)=tz x:=by
  have:∀x:Nat,x<256->IntKind.i64.wrap (tz x:Int)=tz x:=by decide+kernel
  exact this x h1
 refine kE Tryz.func261 ?_;intro hat B X w0;refine kw1 kO (kc7 @ZDF e1 e4 e6 e2 @ZDE @uK) kc0 ?_;exact Zaf rfl
theorem Zu1 (x:Nat)(h0:0<x)(h1:x<256):Zaa Tryz.prog 236 [.sc (.int .u64 x)] (.int (tz x)):=by
 have h:=Zu0 x h0 h1;refine kE Tryz.func236 ?_;intro hat B X w0;refine kw1 kO kc0 (kc1 h) ?_;exact Zaf rfl
end Go.Proofs.YtjjbhjnpeenbkaaGreatDoor.Cyc
namespace Go.Proofs.YtjjbhjnpeenbkaaGreatDoor.Cyc
open Go Go.PS Go.Proofs
open Go.Cy (NA Zcl ZcP costAt Zfh Zep ZeW atN inB Zes fmF ZeK)
set_option maxRecDepth 100000
attribute [local irreducible] Zad wpG Zaa Zah
abbrev Zao (n:Nat):D:= .int n
abbrev Zbh (l:List Nat):D:= .sl (l.map Zao)
def Zbm (c:Nat->Nat->Nat)(f:PV):List PV:=(List.range 64).map (λ i=>PV.int (c (i/8) (i%8)))++[f]
theorem Zkv (c:Nat->Nat->Nat)(f:PV):(Zbm c f).length=65:=by simp[Zbm]
theorem ZEr (c:Nat->Nat->Nat)(f:PV){v u:Nat}(hv:v<8)(hu:u<8):∃r,(Zbm c f).drop (v*8+u)= .int (c v u)::r:=by
 have h1:(Zbm c f)[v*8+u]? =some (.int (c v u)):=by
  rw[Zbm,qW (by simp;omega),uJ,qC (by omega)];simp only[yY];rw[show(v*8+u)/8=v by omega,show(v*8+u)%8=u by omega]
 obtain⟨h2,h3⟩:=uB.1 h1;exact⟨_,by rw[qS h2,h3]⟩
theorem ZuA (n:PV)(c:Nat->Nat->Nat)(f:PV){v u:Nat}(hv:v<8)(hu:u<8):∃r,(n::Zbm c f).drop (1+v*8+u)= .int (c v u)::r:=by
 rw[show 1+v*8+u=(v*8+u)+1 by omega,Ac];exact ZEr c f hv hu
theorem Zo1 (c:Nat->Nat->Nat)(f:PV):(Zbm c f).drop 64=[f]:=by
 rw[Zbm,List.drop_left' (by simp)]
theorem Zmz :∀x:Nat,x<256->0<x->tz x<8/\Go.Cy.bits 8 x=tz x::Go.Cy.bits 8 (x&&&(x-1))/\(x&&&(x-1))<x:=by decide+kernel
theorem ZpI {n s:Nat}(h:n<=8)(hs:s<2^n):Go.Cy.bits n s=Go.Cy.bits 8 s:=by
 have e:List.range 8=List.range n++(List.range (8-n)).map (n+·):=by
  rw[show 8=n+(8-n) by omega,List.range_add];simp
 rw[Go.Cy.bits,Go.Cy.bits,e,gE];have:((List.range (8-n)).map (n+·)).filter (λ u=>s.testBit u)=[]:=by
  rw[List.filter_eq_nil_iff];intro u hu;obtain⟨k,_,rfl⟩:=uP.1 hu;rw[zP (gJ hs (zI (by decide) (by omega)))]
  decide
 rw[this,yT]
theorem ZDY {n x:Nat}(h:n<=8)(h0:0<x)(hx:x<2^n):tz x<n:=by
 have:=Go.Cy.pow_le8 h;obtain⟨_,h2,_⟩:=Zmz x (by omega) h0;have h3:tz x∈Go.Cy.bits n x:=by rw[ZpI h hx,h2];simp
 exact(Go.Cy.mem_bits.1 h3).1
def ZgO (f:Nat->Nat)(x:Nat):Nat:=((Go.Cy.bits 8 x).map f).sum
theorem ZDu {f:Nat->Nat}{x:Nat}(hx:x<256)(h0:0<x):ZgO f x=f (tz x)+ZgO f (x&&&(x-1)):=by
 obtain⟨_,h2,_⟩:=Zmz x hx h0;rw[ZgO,h2];simp[ZgO]
theorem ZDv (f:Nat->Nat):ZgO f 0=0:=by
 have:Go.Cy.bits 8 0=[]:=by decide+kernel
 rw[ZgO,this];rfl
theorem Zt7 {f:Nat->Nat}{k:Nat}:∀{l:List Nat},(∀u,u∈l->f u<=k)->(l.map f).sum<=l.length*k
 |[],_=>by simp
 |x::l,h=>by
  have h1:=h x (by simp);have h2:=Zt7 λ u hu=>h u (uN _ hu)
  simp only[uS,jQ,uX,qH];omega
theorem ZDt {f:Nat->Nat}{k x:Nat}(h:∀u,f u<=k):ZgO f x<=8*k:=by
 refine gQ (Zt7 λ u _=>h u) (yP _ ?_);exact gQ (gT _ _) (by simp)
theorem ZwH (n:Nat)(c:Nat->Nat->Nat)(fm:List Nat)(s:Nat):ZcP n c fm s<=1048576:=by
 cases s with
 |zero=>rw[Go.Cy.costN_zero];omega
 |succ k=>rw[Go.Cy.costN_succ,costAt];exact Go.Cy.foldMin_le.1
def Zdp (n:Nat)(c:Nat->Nat->Nat)(fm:List Nat)(k v:Nat):Nat:=ZeW (Zep n fm (k+1)) (Zfh n c (Zcl n c fm k) (k+1)) (List.range v) 1048576
theorem Zu5 (n:Nat)(c:Nat->Nat->Nat)(fm:List Nat)(k:Nat):Zdp n c fm k 0=1048576:=rfl
theorem Zu4 (n:Nat)(c:Nat->Nat->Nat)(fm:List Nat)(k v:Nat):Zdp n c fm k (v+1)=if Zep n fm (k+1) v=true then min (Zdp n c fm k v) (Zfh n c (Zcl n c fm k) (k+1) v)else Zdp n c fm k v:=by
 simp[Zdp,ZeW,qP]
def ZdP (n:Nat)(c:Nat->Nat->Nat)(fm:List Nat)(L k:Nat)(x:Nat):List D:=(Zcl n c fm k).map Zao++Zao x::List.replicate (L-(k+2)) (.int 0)
def Ze5 (n:Nat)(c:Nat->Nat->Nat)(fm:List Nat)(L k:Nat):List D:=(Zcl n c fm k).map Zao++List.replicate (L-(k+1)) (.int 0)
theorem ZBF (n:Nat)(c:Nat->Nat->Nat)(fm:List Nat)(L k x y:Nat):(ZdP n c fm L k x).set (k+1) (Zao y)=ZdP n c fm L k y:=by
 have h:=Go.Cy.costL_len n c fm k;rw[ZdP,List.set_append_right _ _ (by simp[h]),uD,h,jF];rfl
theorem ZBJ (n:Nat)(c:Nat->Nat->Nat)(fm:List Nat){L k:Nat}(y:Nat)(hk:k+1<L):(Ze5 n c fm L k).set (k+1) (Zao y)=ZdP n c fm L k y:=by
 have h:=Go.Cy.costL_len n c fm k;rw[Ze5,List.set_append_right _ _ (by simp[h]),uD,h,jF,show L-(k+1)=(L-(k+2))+1 by omega,zL];rfl
theorem ZBE (n:Nat)(c:Nat->Nat->Nat)(fm:List Nat){L k x:Nat}(hk:k+1<L):(ZdP n c fm L k x).length=L:=by
 simp[ZdP,Go.Cy.costL_len];omega
theorem ZBH (n:Nat)(c:Nat->Nat->Nat)(fm:List Nat){L k:Nat}(hk:k<L):(Ze5 n c fm L k).length=L:=by
 simp[Ze5,Go.Cy.costL_len];omega
theorem Zqa (n:Nat)(c:Nat->Nat->Nat)(fm:List Nat){k s:Nat}(h:s<=k):(Zcl n c fm k)[s]? =some (ZcP n c fm s):=by
 have h1:s<(Zcl n c fm k).length:=by rw[Go.Cy.costL_len];omega
 have h2:=Go.Cy.costL_at n c fm h;rw[atN,uQ h1]at h2;rw[uQ h1];simp only[yK]at h2;rw[h2]
theorem ZBD (n:Nat)(c:Nat->Nat->Nat)(fm:List Nat){L k x s:Nat}(h:s<=k):(ZdP n c fm L k x)[s]? =some (Zao (ZcP n c fm s)):=by
 rw[ZdP,qW (by simp[Go.Cy.costL_len];omega),uJ,Zqa n c fm h];rfl
theorem ZBB (n:Nat)(c:Nat->Nat->Nat)(fm:List Nat)(L k x:Nat):(ZdP n c fm L k x)[k+1]? =some (Zao x):=by
 have h:=Go.Cy.costL_len n c fm k;rw[ZdP,qG (by simp[h])];simp[h]
theorem ZBG (n:Nat)(c:Nat->Nat->Nat)(fm:List Nat){L k s:Nat}(h:s<=k):(Ze5 n c fm L k)[s]? =some (Zao (ZcP n c fm s)):=by
 rw[Ze5,qW (by simp[Go.Cy.costL_len];omega),uJ,Zqa n c fm h];rfl
theorem ZBI (n:Nat)(c:Nat->Nat->Nat)(fm:List Nat){L k:Nat}(h:k+1<L):(Ze5 n c fm L k)[k+1]? =some (.int 0):=by
 have h1:=Go.Cy.costL_len n c fm k;rw[Ze5,qG (by simp[h1]),qT];simp[h1];omega
theorem ZBC (n:Nat)(c:Nat->Nat->Nat)(fm:List Nat)(L k:Nat):ZdP n c fm L k (Zdp n c fm k n)=Ze5 n c fm L (k+1):=by
 have:Zcl n c fm (k+1)=Zcl n c fm k++[Zdp n c fm k n]:=rfl;rw[ZdP,Ze5,this,uR,qJ];rfl
theorem ZBK (n:Nat)(c:Nat->Nat->Nat)(fm:List Nat){L:Nat}(h:0<L):Ze5 n c fm L 0=List.replicate L (.int 0):=by
 obtain⟨k,rfl⟩:∃k,L=k+1:=⟨L-1,by omega⟩;rw[zL];rfl
theorem Zrx (n:Nat)(c:Nat->Nat->Nat)(fm:List Nat)(h8:n<=8)(hcc:∀u v,c u v<=256)(hl:fm.length=n)(hf:∀v,atN fm v<2^n):
  Zah Tryz.prog 207 [.ptr 1000 0 0 0] [(1000, .cells (.int n::Zbm c (.ref 1001 1 0 n n))),(1001, .row 1 (fm.map Zao))] (.int (Zes n c fm)) [(1000, .cells (.int n::Zbm c (.ref 1001 1 0 n n))),(1001, .row 1 (fm.map Zao))]:=by
 have hpos:=Go.Cy.pow_pos' n;have hp8:=Go.Cy.pow_le8 h8;have hsh:=ZlP n h8;obtain⟨L,hL⟩:∃L,L=2^n:=⟨_,rfl⟩;rw[<-hL]at hpos hp8 hsh;have hx1:=Zo1 c (.ref 1001 1 0 n n);refine kM Tryz.func207 ?_;intro B X w0;refine kw1 kO (kc1 hsh) kc0 ?_;refine Zae (λ(k:Nat)=>k<L) (λ k=>[(0, .ptr 1000 0 0 0),(3, .ref 14 1 0 L L),(4, .int (k+1:Nat))]) (λ k=>[(14, .row 1 (Ze5 n c fm L k)),(1000, .cells (.int n::Zbm c (.ref 1001 1 0 n n))),(1001, .row 1 (fm.map Zao))]) (λ k=>L-k) 0 ?_ ?_ ?_
 ·exact hpos
 ·exact kN (kc1 (ZBK n c fm hpos)) []
 ·intro k hk;have hpl:=ZBH n c fm hk;rcases uC (k+1) L with hlt|hge
  ·have hset:=ZBJ n c fm 1048576 hlt;have hnx:=ZBI n c fm hlt;refine kw1 kO (kc4 hx1 hpl hset hnx) kc0 ?_;refine Zae (λ(v:Nat)=>v<=n) (λ v=>[(0, .ptr 1000 0 0 0),(3, .ref 14 1 0 L L),(4, .int (k+1:Nat)),(27, .int n),(28, .int v)]) (λ v=>[(14, .row 1 (ZdP n c fm L k (Zdp n c fm k v))),(1000, .cells (.int n::Zbm c (.ref 1001 1 0 n n))),(1001, .row 1 (fm.map Zao))]) (λ v=>n-v) 0 ?_ ?_ ?_
   ·exact uG _
   ·exact kN (kc1 @Zu5) []
   ·intro v hv;have hkl:(ZdP n c fm L k (Zdp n c fm k v)).length=L:=ZBE n c fm hlt;rcases uC v n with hvl|hvg
    ·obtain⟨f,hfv⟩:=Zac (show v<fm.length by omega);have hfa:atN fm v=f:=by rw[atN,hfv];rfl
     have hf8:f<2^n:=by rw[<-hfa];exact hf v
     have hb:=ZCs (k+1) (by omega) v (by omega);have hsucc:=Zu4 n c fm k v;by_cases hbit:(k+1).testBit v=true
     ·rw[if_pos hbit]at hb;obtain⟨p,hp⟩:∃p,p=2^v:=⟨_,rfl⟩;obtain⟨r,hr⟩:∃r,r=k+1-2^v:=⟨_,rfl⟩;have hrk:=(Go.Cy.clr (k+1) (by omega) v (by omega) hbit).1;rw[<-hr]at hrk;have hp8':p<256:=by rw[hp];exact Ba (n:=8) (by decide) (by omega)
      have e1:=ZlP v (by omega);rw[<-hp]at e1;have e2:=ZpR (a:=k+1) (b:=p) (by omega) (by omega);rw[hp,Zvc (k+1) (by omega) v (by omega) hbit,<-hr,<-hp]at e2;have e3:=ZpR (a:=f) (b:=r) (by omega) (by omega);have hz:=Zvd (b:=r) hf8;have hok:Zep n fm (k+1) v=inB n f r:=by rw[Zep,hbit,hfa,hr];rfl
      rw[hok]at hsucc;have hg:=ZBD n c fm (L:=L) (x:=Zdp n c fm k v) (show r<=k by omega);rcases hin:inB n f r with _|_
      ·rw[hin]at hsucc hz;have hz':¬((Zfd f r:Nat):Int)=0:=λ h=>by have:=hz.1 (by omega);cases this
       refine kw1 kO (kc8 hx1 hkl hfv hb e1 e2 e3 @hz') kc0 ?_;refine⟨v+1,?_,eL [] _ _ (by refine⟨?_,?_⟩<;>(repeat' first|exact fmn|refine fmc ⟨(by first|rfl|(simp(disch:=omega) only[go_sem,simprocAttr,inL,hsucc,if_neg kK];first|done|omega|(congr 1;done))),?_⟩);done),?_⟩
       ·omega
       ·omega
      ·rw[hin]at hsucc hz;have hz':=hz.2 rfl;have hr8:r<256:=by omega
       have hcg:Zfh n c (Zcl n c fm k) (k+1) v=ZcP n c fm r+ZgO (c v) r:=by
        rw[Zfh,<-hr,Go.Cy.costL_at n c fm (by omega),ZpI h8 (by omega)];rfl
       have hcn:=ZwH n c fm r;have hsb:=ZDt (x:=r) (hcc v);refine kw1 kO (kc8 hx1 hkl hfv hb e1 e2 e3 (kc2 @hz' hg)) kc0 ?_;refine Zae (λ(q:Nat×Nat)=>match q with|(x,y)=>x<=r/\y+ZgO (c v) x=Zfh n c (Zcl n c fm k) (k+1) v) (λ(x,y)=>[(0, .ptr 1000 0 0 0),(3, .ref 14 1 0 L L),(4, .int (k+1:Nat)),(5, .int v),(7, .int y),(8, .int x),(27, .int n),(28, .int v)]) (λ(x,y)=>[(14, .row 1 (ZdP n c fm L k (Zdp n c fm k v))),(1000, .cells (.int n::Zbm c (.ref 1001 1 0 n n))),(1001, .row 1 (fm.map Zao))]) (λ(x,y)=>x) (r,ZcP n c fm r) ?_ ?_ ?_
       ·exact⟨uI _,hcg.symm⟩
       ·exact kN kc0 []
       ·rintro⟨x,y⟩ ⟨hxr,hy⟩;dsimp only at hxr hy|-;rcases qU x with rfl|hx0
        ·rw[ZDv,jA]at hy;have hcu:=ZBB n c fm L k (Zdp n c fm k v);have hst:=ZBF n c fm L k (Zdp n c fm k v);have hmin:(if(y:Int)<(Zdp n c fm k v:Nat)then(y:Int)else(Zdp n c fm k v:Nat))=(min (Zdp n c fm k v) y:Nat):=by omega
         refine kw1 kO (kc5 hx1 hkl hcu hst hmin) kc0 ?_;refine⟨v+1,?_,kN (kc3 @hsucc @if_pos.{0} hy) [],?_⟩
         ·omega
         ·omega
        ·have htz:=Zu1 x hx0 (by omega);have htn:=ZDY h8 hx0 (by omega:x<2^n);have hstep:=ZDu (f:=c v) (show x<256 by omega) hx0;have hlt2:=(Zmz x (by omega) hx0).2.2;obtain⟨q,hq⟩:=ZuA (.int n) c (.ref 1001 1 0 n n) (show v<8 by omega) (show tz x<8 by omega);have hcv:=hcc v (tz x);have hw:=ZoZ (x:=(y:Int)+(c v (tz x):Nat)) (by omega) (by omega);have hu64:IntKind.u64.wrap (x:Int)=x:=by
          have:∀x:Nat,x<256->IntKind.u64.wrap (x:Int)=x:=by decide+kernel
          exact this x (by omega)
         have hand:=ZvZ (a:=x) (b:=x-1) (by omega) (by omega);have hx1':((x:Int)-1)=((x-1:Nat):Int):=by omega
         refine kw1 kO (kc7 hx1 hkl hu64 hq hw @hx1' hand) (kc1 htz) ?_;refine⟨(x&&&(x-1),y+c v (tz x)),?_,kN kc0 [],?_⟩
         ·dsimp only;exact⟨by omega,by omega⟩
         ·exact hlt2
     ·rw[if_neg hbit]at hb;have hok:Zep n fm (k+1) v=false:=by rw[Zep];simp[hbit]
      rw[hok]at hsucc;refine kw1 kO (kc4 hx1 hkl hfv hb) kc0 ?_;refine⟨v+1,?_,eL [] _ _ (by refine⟨?_,?_⟩<;>(repeat' first|exact fmn|refine fmc ⟨(by first|rfl|(simp(disch:=omega) only[go_sem,simprocAttr,inL,hsucc,if_neg kK];first|done|omega|(congr 1;done))),?_⟩);done),?_⟩
      ·omega
      ·omega
    ·have:v=n:=by omega
     subst this;refine kw1 kO (kc1 hx1) kc0 ?_;refine⟨k+1,?_,kN (kc1 @ZBC) [],?_⟩
     ·omega
     ·omega
  ·have:k+1=L:=by omega
   have hlg:=ZBG n c fm (L:=L) (k:=k) (uI k);have e1:(L:Int)-1=k:=by omega
   have e2:Zes n c fm=ZcP n c fm k:=by rw[Zes];congr 1;omega
   rw[e2];refine kw1 kO (kc3 hpl e1 hlg) kc0 ?_;exact rfl
end Go.Proofs.YtjjbhjnpeenbkaaGreatDoor.Cyc
namespace Go.Proofs.YtjjbhjnpeenbkaaGreatDoor.Cyc
open Go Go.PS Go.Proofs
open Go.Cy (NA InN atN Zes cnt ZbW ZfR ZcC ZbF Zbn)
set_option maxRecDepth 100000
attribute [local irreducible] Zad wpG Zaa Zah
def castA (l:List NA):List Arc:=l.map λ a=>((a.1:Int),(a.2:Int))
theorem castA_len (l:List NA):(castA l).length=l.length:=by simp[castA]
theorem castA_get {l:List NA}{k:Nat}{a:NA}(h:l[k]? =some a):(castA l)[k]? =some ((a.1:Int),(a.2:Int)):=by simp[castA,h]
theorem Zo2 (objs:Nat->Ob)(k:Nat)(c:Nat->Nat->Nat)(f:PV):(Zbm c f).flatMap (PV.refs objs k)=PV.refs objs k f:=by
 have h:∀l:List Nat,(l.map (λ i=>PV.int (c (i/8) (i%8)))).flatMap (PV.refs objs k)=[]:=by
  intro l
  induction l with
  |nil=>rfl
  |cons a l ih=>rw[uS,gO,ih];cases k<;>rfl
 rw[Zbm,List.flatMap_append,h];simp
theorem Zo3 (g:Nat->Nat)(c:Nat->Nat->Nat)(f:PV):(Zbm c f).map (PV.ren g)=Zbm c (f.ren g):=by
 rw[Zbm,Zbm,uR,gR];rfl
theorem ZEs (n:PV)(c c':Nat->Nat->Nat)(f:PV){u v:Nat}(hu:u<8)(hv:v<8)(h:∀i j,i<8->j<8->c' i j=if i=u/\j=v then c u v+1 else c i j):
  ZbZ (n::Zbm c f) (1+u*8+v) [.int ((c u v:Int)+1)]=n::Zbm c' f:=by
 have e:ZbZ (n::Zbm c f) (1+u*8+v) [.int ((c u v:Int)+1)]=n::ZbZ (Zbm c f) (u*8+v) [.int ((c u v:Int)+1)]:=by
  rw[ZbZ,ZbZ,show 1+u*8+v=(u*8+v)+1 by omega,Bj];simp only[uX,uW,qM,gX];rw[show u*8+v+1+1=(u*8+v+1)+1 from rfl,Ac]
 rw[e]
 congr 1
 refine yS λ k=>?_
 rw[ZjC _ _ _ (by simp[Zkv];omega)];simp only[uX,uW,qM];rcases uC k 64 with hk|hk
 ·have hg:∀d:Nat->Nat->Nat,(Zbm d f)[k]? =some (.int (d (k/8) (k%8))):=λ d=>by
   rw[Zbm,qW (by simp;omega),uJ,qC hk];rfl
  rw[hg,hg,h (k/8) (k%8) (by omega) (by omega)];by_cases hc:k=u*8+v
  ·subst hc;rw[if_neg (by omega),if_pos (by omega),if_pos (by omega)];simp
  ·rw[if_neg (show¬(k/8=u/\k%8=v) by omega)];split
   ·rfl
   ·rw[if_neg (by omega)]
 ·rw[if_neg (by omega),if_neg (by omega)];have hg:∀d:Nat->Nat->Nat,(Zbm d f)[k]? =[f][k-64]? :=λ d=>by
   rw[Zbm,qG (by simp;omega)];simp
  rw[hg,hg]
theorem ZuB (n:PV)(c:Nat->Nat->Nat)(f f':PV):ZbZ (n::Zbm c f) 65 [f']=n::Zbm c f':=by
 have h:(List.map (λ i=>PV.int (c (i/8) (i%8))) (List.range 64)).length=64:=by simp
 rw[ZbZ,Zbm,show 65=64+1 from rfl,Bj,List.take_left' h];simp only[uX,uW,qM];rw[kS (by simp)];simp[Zbm]
theorem Zp7 (l:List NA)(a:NA)(u v:Nat):cnt (l++[a]) u v=cnt l u v+Go.Cy.ind a u v:=by
 have:=Go.Cy.cnt_cons a [] u v;simp only[cnt,gE,uH,kH,uW]at this|-;omega
theorem Zp6 (l:List NA)(u v:Nat):cnt l u v<=l.length:=gT _ _
theorem Zsg {fm:List Nat}{v u f:Nat}(h:fm[v]? =some f):(fm.map Zao).set v (.int ((f|||2^u:Nat):Int))=(ZbW fm v u).map Zao:=by
 rw[ZbW,yR,atN,h];rfl
theorem Zr7 (l:List Nat):∀d,d∈l.map Zao->d.cells.length=1:=ZkX Zao 1 (λ _=>rfl) l
theorem ZhZ (x:Int):∀d,d∈[D.int x]->d.cells.length=1:=by intro d hd;rw[uT]at hd;subst hd;rfl
def Zc7 (g:Gr):List Nat×Int:=if gOk g then(if 8<g.1 then([],2)else(Zbn g.1.toNat (g.2.map λ a=>(a.1.toNat,a.2.toNat)),0))else([],1)
theorem ZuK (n:Nat)(l:List NA)(h:gOk ((n:Int),castA l)=true)(hi:InN n l)(hll:l.length<=256)(h8:n<=8):Zaa Tryz.prog 156 [gD ((n:Int),castA l)] (.tup [Zbh (Zbn n l), .int 0]):=by
 have hv:Zaa Tryz.prog 97 [gD ((n:Int),castA l)] (.bool true):=h▸Zgg _;have hcl:=castA_len l;refine kE Tryz.func156 ?_;intro hat B X w0;refine kw1 kO (kc1 hcl) (kc1 hv) ?_;refine Zae (λ(k:Nat)=>k<=l.length) (λ k=>[(1, .ptr 1 0 0 0),(4, .ptr 26 0 0 0),(28, .d (Zal (castA l))),(29, .int l.length),(30, .int k)]) (λ k=>[(1, .cells [.int n, .d (Zal (castA l))]),(26, .cells (.int n::Zbm (cnt (l.take k)) (.ref 24 1 0 n n))),(24, .row 1 ((List.replicate n 0).map Zao))]) (λ k=>l.length-k) 0 ?_ ?_ ?_
 ·exact uG _
 ·exact kN (kc1 @jJ.{0,0}) []
 ·intro k hk;rcases uC k l.length with hlt|hge
  ·obtain⟨a,ha⟩:=Zac hlt;have hp:=castA_get ha;have hin:=hi a (uA ha);have htk:l.take (k+1)=l.take k++[a]:=ZaA ha;by_cases c:a.1=a.2
   ·have e:cnt (l.take (k+1))=cnt (l.take k):=by
     funext u v
     rw[htk,Zp7,Go.Cy.ind,if_neg (λ h=>h.1 c)];rfl
    have c':(a.1:Int)=a.2:=by omega
    refine kw1 kO (kc3 hp hcl @c') kc0 ?_;refine⟨k+1,?_,kN (kc1 e) [],?_⟩
    ·omega
    ·omega
   ·have c':¬(a.1:Int)=a.2:=by omega
    obtain⟨q,hq⟩:=ZuA (.int n) (cnt (l.take k)) (.ref 24 1 0 n n) (show a.1<8 by omega) (show a.2<8 by omega);have hle:=Zp6 (l.take k) a.1 a.2;rw[yF]at hle;have hw:=ZoZ (x:=(cnt (l.take k) a.1 a.2:Int)+1) (by omega) (by omega);have hs:=ZEs (.int n) (cnt (l.take k)) (cnt (l.take (k+1))) (.ref 24 1 0 n n) (show a.1<8 by omega) (show a.2<8 by omega) (λ i j _ _=>by
     rw[htk,Zp7,Go.Cy.ind];by_cases c2:i=a.1/\j=a.2
     ·rw[if_pos c2,if_pos ⟨c,c2.1.symm,c2.2.symm⟩,c2.1,c2.2]
     ·rw[if_neg c2,if_neg (λ h=>c2 ⟨h.2.1.symm,h.2.2.symm⟩)];rfl)
    have hxl:(PV.int n::Zbm (cnt (l.take k)) (.ref 24 1 0 n n)).length=66:=by rw[uX,Zkv]
    refine kw1 kO (kc7 hp hcl @c' hq hw hs @Zkv) kc0 ?_;refine⟨k+1,?_,kN kc0 [],?_⟩
    ·omega
    ·omega
  ·have hk:k=l.length:=by omega
   subst hk;rw[yH];have hrn:(List.replicate n 0).length=n:=qX;have hc256:∀u v,cnt l u v<=256:=λ u v=>gQ (Zp6 l u v) hll
   have hdec:=Go.Cy.dec_all h8 hi (by omega:l.length<1048576);have hl0:=Zrx n (cnt l) (List.replicate n 0) h8 hc256 hrn (λ v=>by rw[Go.Cy.atN_rep];exact Go.Cy.pow_pos' n);refine kw1 kO (kc3 hcl @Zo2 @gO.{0,0}) (kc1 (kmc [(1000,26),(1001,24)] hl0)) ?_;refine kR kc0 [(900,24)] [(1, .ptr 1 0 0 0),(4, .ptr 26 0 0 0),(7, .int (ZbF n l)),(8, .nilS),(58, .d (Zal (castA l))),(59, .int l.length),(60, .int (0:Nat))] [(1, .cells [.int n, .d (Zal (castA l))]),(26, .cells (.int n::Zbm (cnt l) (.ref 900 1 0 n n))),(900, .row 1 ((List.replicate n 0).map Zao))] ?_;refine Zaq _ (Zc3 8 901 1 rfl rfl) ?_;refine Zae (λ(k:Nat)=>k<=l.length) (λ k=>[(1, .ptr 1 0 0 0),(4, .ptr 26 0 0 0),(7, .int (ZbF n l)),(8, .ref 901 1 0 (ZcC n (cnt l) (ZbF n l) l k).2.length (ZcC n (cnt l) (ZbF n l) l k).2.length),(58, .d (Zal (castA l))),(59, .int l.length),(60, .int k)]) (λ k=>[(1, .cells [.int n, .d (Zal (castA l))]),(26, .cells (.int n::Zbm (cnt l) (.ref 900 1 0 n n))),(900, .row 1 ((ZcC n (cnt l) (ZbF n l) l k).1.map Zao)),(901, .row 1 ((ZcC n (cnt l) (ZbF n l) l k).2.map Zao))]) (λ k=>l.length-k) 0 ?_ ?_ ?_
   ·exact uG _
   ·exact kN kc0 []
   ·intro k hk;rcases uC k l.length with hlt|hge
    ·obtain⟨a,ha⟩:=Zac hlt;have hp:=castA_get ha;have hin:=hi a (uA ha);have hD:=hdec k hk;have hDs:ZcC n (cnt l) (ZbF n l) l (k+1)=ZfR n (cnt l) (ZbF n l) k a (ZcC n (cnt l) (ZbF n l) l k):=by rw[ZcC,ha]
     revert hD hDs;generalize ZcC n (cnt l) (ZbF n l) l k=st;obtain⟨fm,Dk⟩:=st;intro hD hDs;dsimp only at hD|-;have hfl:=hD.len;have hDl:Dk.length<=k:=Go.Cy.nd_le (hD.asc.imp λ h=>De h) hD.below;by_cases c:a.1=a.2
     ·rw[ZfR,if_pos c]at hDs;have c':(a.1:Int)=a.2:=by omega
      refine kw1 kO (kc3 hp hcl @c') kc0 ?_;refine⟨k+1,?_,kN (kc1 hDs) [],?_⟩
      ·omega
      ·omega
     ·have c':¬(a.1:Int)=a.2:=by omega
      rw[ZfR,if_neg c]at hDs;have hv1:a.1<fm.length:=by omega
      have hv2:a.2<fm.length:=by omega
      obtain⟨f1,hf1⟩:=Zac hv1;obtain⟨f2,hf2⟩:=Zac hv2;have hx1:=Zo1 (cnt l) (.ref 900 1 0 n n);have hx2:=Zo1 (cnt l) (.ref 77 1 0 n n);have hs1:=ZuB (.int n) (cnt l) (.ref 900 1 0 n n) (.ref 77 1 0 n n);have hs2:=ZuB (.int n) (cnt l) (.ref 77 1 0 n n) (.ref 900 1 0 n n);have hmf:(fm.map Zao).length=n:=by rw[uD,hfl]
      have hmt:(fm.map Zao).take n=fm.map Zao:=uE (by omega);have hfa1:atN fm a.1=f1:=by rw[atN,hf1];rfl
      have hfa2:atN fm a.2=f2:=by rw[atN,hf2];rfl
      have hb1:=gJ (hfa1▸hD.lt a.1) (Go.Cy.pow_le8 h8);have hb2:=gJ (hfa2▸hD.lt a.2) (Go.Cy.pow_le8 h8);have hq1:=Zsg (u:=a.2) hf1;have hq2:=Zsg (u:=a.1) hf2;obtain⟨p1,hp1⟩:∃p,p=2^a.1:=⟨_,rfl⟩;obtain⟨p2,hp2⟩:∃p,p=2^a.2:=⟨_,rfl⟩;have hb3:p1<256:=by rw[hp1];exact Ba (n:=8) (by decide) (by omega)
      have hb4:p2<256:=by rw[hp2];exact Ba (n:=8) (by decide) (by omega)
      have e1:=ZlP a.1 (by omega);have e2:=ZlP a.2 (by omega);rw[<-hp1]at e1 hq2;rw[<-hp2]at e2 hq1;have o1:=ZpS (a:=f1) (b:=p2) (by omega) (by omega);have o2:=ZpS (a:=f2) (b:=p1) (by omega) (by omega);have hl1:=Zrx n (cnt l) (ZbW fm a.1 a.2) h8 hc256 (by rw[ZbW,yJ,hfl]) (Go.Cy.orAt_lt hv1 hin.2 hD.lt);by_cases c2:Zes n (cnt l) (ZbW fm a.1 a.2)=ZbF n l
      ·rw[if_pos c2]at hDs;have c2':((Zes n (cnt l) (ZbW fm a.1 a.2):Nat):Int)=ZbF n l:=by rw[c2]
       refine kw1 kO (kc8 hp hcl @c' hx1 hx2 hs1 @Zkv (kc8 hmf hmt @qX.{0} hfl hf1 e2 o1 (kc5 hq1 @Zo2 @gO.{0,0} @c2' @Zan))) (kc1 (kmc [(1000,26),(1001,77)] hl1)) ?_;refine⟨k+1,?_,eL [(900,77),(901,106)] _ _ (by refine⟨?_,?_⟩<;>(repeat' first|exact fmn|refine fmc ⟨(by first|rfl|(simp(disch:=omega) only[go_sem,simprocAttr,inL,hDs,uH,yL,uR,uS,yE,Ob.ren,Zo3,uS];first|done|omega|(congr 1;done))),?_⟩);done),?_⟩
       ·omega
       ·omega
      ·rw[if_neg c2]at hDs;have c2':¬((Zes n (cnt l) (ZbW fm a.1 a.2):Nat):Int)=ZbF n l:=by omega
       refine kw1 kO (kc8 hp hcl @c' hx1 hx2 hs1 hs2 (kc8 @Zkv hmf hmt @qX.{0} hfl hf1 hf2 (kc8 e1 e2 o1 o2 hq1 hq2 @Zo2 (kc3 @Zo3 @gO.{0,0} @c2')))) (kc1 (kmc [(1000,26),(1001,77)] hl1)) ?_;refine⟨k+1,?_,eL [] _ _ (by refine⟨?_,?_⟩<;>(repeat' first|exact fmn|refine fmc ⟨(by first|rfl|(simp(disch:=omega) only[go_sem,simprocAttr,inL,hDs,Ob.ren,Zo3,uS];first|done|omega|(congr 1;done))),?_⟩);done),?_⟩
       ·omega
       ·omega
    ·have hk:k=l.length:=by omega
     subst hk;refine kw1 kO kc0 kc0 ?_;exact⟨_,rfl,Zch (o:=901) rfl rfl (by simp) (by rw[uE (by simp)];rfl),Zaf rfl,trivial⟩
end Go.Proofs.YtjjbhjnpeenbkaaGreatDoor.Cyc
namespace Go.Proofs.YtjjbhjnpeenbkaaGreatDoor.Cyc
open Go Go.PS Go.Proofs
open Go.Hp (Zt9 upN Zew)
set_option maxRecDepth 100000
attribute [local irreducible] Zad wpG Zaa Zah
end Go.Proofs.YtjjbhjnpeenbkaaGreatDoor.Cyc
namespace Go.Proofs.YtjjbhjnpeenbkaaGreatDoor.Cyc
open Go Go.PS Go.Proofs
open Go.Cy (NA InN)
set_option maxRecDepth 100000
attribute [local irreducible] Zad wpG Zaa Zah
end Go.Proofs.YtjjbhjnpeenbkaaGreatDoor.Cyc
namespace Go.Proofs.YtjjbhjnpeenbkaaGreatDoor.Cyc
open Go Go.PS Go.Proofs
open Go.Cy (NA InN Acy inC hds Kahn KahnI)
open Go.Hp (Zew)
set_option maxRecDepth 100000
attribute [local irreducible] Zad wpG Zaa Zah
noncomputable def Zmh (l:List NA):Bool:= @decide (Acy l) (Classical.propDecidable _)
theorem Zu6 {l:List NA}:Zmh l=true↔Acy l:=by rw[Zmh];exact @decide_eq_true_iff _ (Classical.propDecidable _)
def Zb3 (n:Nat)(f:Nat->Nat):List D:=(List.range n).map λ w=>Zao (f w)
theorem Zfx (n:Nat)(f:Nat->Nat):(Zb3 n f).length=n:=by simp[Zb3]
theorem Zf9 {n:Nat}(f:Nat->Nat){i:Nat}(h:i<n):(Zb3 n f)[i]? =some (Zao (f i)):=by
 rw[Zb3,uJ,qC h];rfl
theorem Zth {n:Nat}{f f':Nat->Nat}{i x:Nat}(h:∀w,w<n->f' w=if w=i then x else f w):(Zb3 n f).set i (Zao x)=Zb3 n f':=by
 refine yS λ k=>?_
 rw[yX,Zfx];rcases uC k n with hk|hk
 ·rw[Zf9 f' hk,h k hk];by_cases c:i=k
  ·subst c;simp[hk]
  ·rw[if_neg c,if_neg (Ne.symm c),Zf9 f hk]
 ·rw[uL (by rw[Zfx];exact hk:(Zb3 n f').length<=k),uL (by rw[Zfx];exact hk:(Zb3 n f).length<=k)];split
  ·rw[if_neg (by omega)]
  ·rfl
end Go.Proofs.YtjjbhjnpeenbkaaGreatDoor.Cyc
namespace Go.Proofs.YtjjbhjnpeenbkaaGreatDoor.Cyc
open Go Go.PS Go.Proofs
open Go.Cy (NA InN Acy Zfc Za7 Asc)
set_option maxRecDepth 100000
attribute [local irreducible] Zad wpG Zaa Zah
abbrev Zgk (s:List Nat):List Int:=s.map λ x:Nat=>(x:Int)
theorem Zv6 {s:List Nat}{i x:Nat}(h:s[i]? =some x):(Zgk s)[i]? =some (x:Int):=by simp[h]
theorem Zye (s:List Nat):Zab (Zgk s)=Zbh s:=by simp[Zab,Zbh,Function.comp]
def ati (s:List Int)(i:Nat):Int:=(s[i]?).getD 0
def ZgA (l:List NA)(s:List Int)(i:Nat):Bool:=match s[i]? with
 |some e=>decide (0<=e)&&(match l[e.toNat]? with|some a=> !decide (a.1=a.2)|none=>false)&&(decide (i=0)||decide (ati s (i-1)<e))
 |none=>true
theorem Zxz (l:List NA)(t:List Nat):Zfm (castA l) (Zgk t)=castA (Za7 l t):=by
 refine yS λ k=>?_
 rcases uC k l.length with h|h
 ·obtain⟨a,ha⟩:=Zac h;rw[Zjz (castA_get ha),castA_get (Go.Cy.flipN_get ha)];have:ZeX (Zgk t) (k:Int)=decide (k∈t):=by
   rw[qV];simp only[ZeX,gK,uF,uP];constructor
   ·rintro⟨x,⟨y,hy,rfl⟩,h2⟩;have:y=k:=by omega
    exact this▸hy
   ·intro hk;exact⟨_,⟨k,hk,rfl⟩,rfl⟩
  rw[this];by_cases c:k∈t
  ·simp[c,ZlX]
  ·simp[c]
 ·rw[uL (by rw[ZhS,castA_len];exact h),uL (by rw[castA_len,Go.Cy.flipN_len];exact h)]
theorem ZyR {l:List NA}{t:List Nat}(h:Zfc l t):Zgz (Zgk t) l.length=0:=by
 have key:∀k,k<=t.length->Zd2 (ZgW (Zgk t) l.length) k=0:=by
  intro k
  induction k with
  |zero=>intro _;rfl
  |succ k ih=>
   intro hk;refine ZqJ (ih (by omega)) ?_;obtain⟨x,hx⟩:=Zac (show k<t.length by omega);obtain⟨a,ha,hn⟩:=h.2 x (uA hx);have hxl:=(uB.1 ha).1;simp only[ZgW,Zv6 hx];rw[if_neg (by omega),if_neg];simp only[ZeX,gK,uF,not_exists,not_and];rintro y hy rfl;rw[Zgk,<-Ao]at hy;obtain⟨z,hz,he⟩:=uP.1 hy;obtain⟨i,hi⟩:=gN.1 hz;rw[qF]at hi;split at hi
   ·rename_i hik;have hi2:=uB.1 hi;have hx2:=uB.1 hx;have:=(gM.1 h.1) i k hi2.1 hx2.1 hik;rw[hi2.2,hx2.2]at this;omega
   ·cases hi
 have:=key t.length (uI _);rw[Zgz,uD];exact this
end Go.Proofs.YtjjbhjnpeenbkaaGreatDoor.Cyc
namespace Go.Proofs.YtjjbhjnpeenbkaaGreatDoor.Cyc
open Go Go.PS Go.Proofs
open Go.Cy (NA InN cnt ZfR ZcC ZbF Zbn Za7 Zfc Asc)
set_option maxRecDepth 100000
attribute [local irreducible] Zad wpG Zaa Zah
theorem Zqh (n:Nat)(c:Nat->Nat->Nat)(z:Nat)(l:List NA):∀k,k<=l.length->Asc (ZcC n c z l k).2/\∀i,i∈(ZcC n c z l k).2->i<k/\∃a,l[i]? =some a/\a.1≠a.2:=by
 intro k
 induction k with
 |zero=>intro _;exact⟨List.Pairwise.nil,λ i hi=>by cases hi⟩
 |succ k ih=>
  intro hk;obtain⟨h1,h2⟩:=ih (by omega);obtain⟨a,ha⟩:=Zac (show k<l.length by omega);rw[ZcC,ha];dsimp only;rw[ZfR];have h3:∀i,i∈(ZcC n c z l k).2->i<k+1/\∃a,l[i]? =some a/\a.1≠a.2:=λ i hi=>⟨by have:=(h2 i hi).1;omega,(h2 i hi).2⟩
  by_cases e:a.1=a.2
  ·rw[if_pos e];exact⟨h1,h3⟩
  ·rw[if_neg e];split
   ·refine⟨?_,λ i hi=>?_⟩
    ·refine gH.2 ⟨h1,zJ _ _,λ x hx y hy=>?_⟩;rw[uT]at hy;have:=(h2 x hx).1;omega
    ·rcases yO.1 hi with hi|hi
     ·exact h3 i hi
     ·rw[uT]at hi;subst hi;exact⟨by omega,a,ha,e⟩
   ·exact⟨h1,h3⟩
theorem Zrw (n:Nat)(l:List NA):Zfc l (Zbn n l):=
 ⟨(Zqh n (cnt l) (ZbF n l) l l.length (uI _)).1,λ i hi=>((Zqh n (cnt l) (ZbF n l) l l.length (uI _)).2 i hi).2⟩
theorem Zxv {n:Nat}{l:List NA}{t:List Nat}(h:gOk ((n:Int),castA l)=true)(ht:Zfc l t):Zaa Tryz.prog 158 [gD ((n:Int),castA l),Zbh t] (.tup [gD ((n:Int),castA (Za7 l t)), .int 0]):=by
 have hF:=ZuJ ((n:Int),castA l) (Zgk t);have eF:ZfX ((n:Int),castA l) (Zgk t)=(((n:Int),castA (Za7 l t)),0):=by
  have h2:=ZyR ht;rw[ZfX,if_pos h];simp only[castA_len,h2,if_true,Zxz]
 rw[eF,Zye]at hF;exact hF
theorem Break8 (n:Nat)(l:List NA)(h:gOk ((n:Int),castA l)=true)(hi:InN n l)(hll:l.length<=256)(h8:n<=8):Zaa Tryz.prog 94 [gD ((n:Int),castA l)] (.tup [Zbh (Zbn n l),gD ((n:Int),castA (Za7 l (Zbn n l)))]):=by
 have hF:=Zxv h (Zrw n l);have hl:=ZuK n l h hi hll h8;refine kE Tryz.func94 ?_;intro hat B X w0;refine kw1 kO kc0 (kc2 hl hF) ?_;refine⟨_,rfl,?_,⟨_,_,_,_,rfl,?_⟩,trivial⟩
 ·rfl
 ·simp(disch:=omega) only[go_sem,simprocAttr]
end Go.Proofs.YtjjbhjnpeenbkaaGreatDoor.Cyc
namespace Go.Proofs.YtjjbhjnpeenbkaaGreatDoor.Cyc
open Go Go.PS Go.Proofs
open Go.Cy (NA InN ZcG Zdv Zdu Zd8)
set_option maxRecDepth 100000
attribute [local irreducible] Zad wpG Zaa Zah
def Zfr (n:Nat)(S:List Nat):List D:=(List.range n).map λ w=> .bool (decide (w∈S))
theorem Zgu (n:Nat)(S:List Nat):(Zfr n S).length=n:=by simp[Zfr]
theorem Znk {n:Nat}(S:List Nat){i:Nat}(h:i<n):(Zfr n S)[i]? =some (.bool (decide (i∈S))):=by
 rw[Zfr,uJ,qC h];rfl
theorem ZwT (l:List NA)(S:List Nat)(a:NA)(v:Nat):Zdv (l++[a]) S v=Zdv l S v+(ZcG S a&&decide (a.1=v)).toNat:=by
 simp only[Zdv,gE,uH,jV,kH];cases ZcG S a&&decide (a.1=v)<;>rfl
theorem ZwR (l:List NA)(S:List Nat)(a:NA)(v:Nat):Zdu (l++[a]) S v=Zdu l S v+(ZcG S a&&decide (a.2=v)).toNat:=by
 simp only[Zdu,gE,uH,jV,kH];cases ZcG S a&&decide (a.2=v)<;>rfl
theorem ZwS (l:List NA)(S:List Nat)(v:Nat):Zdv l S v<=l.length:=gT _ _
theorem ZwQ (l:List NA)(S:List Nat)(v:Nat):Zdu l S v<=l.length:=gT _ _
theorem ZwU (n:Nat)(l:List NA)(S:List Nat)(v:Nat)(hi:InN n l)(hll:l.length<=256):
  Zaa Tryz.prog 238 [gD ((n:Int),castA l), .sl (Zfr n S), .int v] (.tup [.int (Zdv l S v), .int (Zdu l S v)]):=by
 have hcl:=castA_len l;refine kE Tryz.func238 ?_;intro hat B X w0;refine kw1 kO (kc1 hcl) kc0 ?_;refine Zae (λ(k:Nat)=>k<=l.length) (λ k=>[(1, .d (.sl (Zfr n S))),(2, .int v),(3, .ptr 3 0 0 0),(6, .int (Zdv (l.take k) S v)),(7, .int (Zdu (l.take k) S v)),(11, .d (Zal (castA l))),(12, .int l.length),(13, .int k)]) (λ k=>[(3, .cells [.int n, .d (Zal (castA l))])]) (λ k=>l.length-k) 0 ?_ ?_ ?_
 ·exact uG _
 ·exact kN kc0 []
 ·intro k hk;rcases uC k l.length with hlt|hge
  ·obtain⟨a,ha⟩:=Zac hlt;have hp:=castA_get ha;have hin:=hi a (uA ha);have g1:=Znk S hin.1;have g2:=Znk S hin.2;have hO:Zdv (l.take (k+1)) S v=Zdv (l.take k) S v+(ZcG S a&&decide (a.1=v)).toNat:=by rw[ZaA ha];exact ZwT _ _ _ _
   have hB:Zdu (l.take (k+1)) S v=Zdu (l.take k) S v+(ZcG S a&&decide (a.2=v)).toNat:=by rw[ZaA ha];exact ZwR _ _ _ _
   have b1:=ZwS (l.take k) S v;have b2:=ZwQ (l.take k) S v;rw[yF]at b1 b2;by_cases d1:a.1=a.2
   ·have e:ZcG S a=false:=by simp[ZcG,d1]
    rw[e]at hO hB;have d1':((a.1:Nat):Int)=(a.2:Nat):=by omega
    refine kw1 kO (kc3 hp hcl @d1') kc0 ?_;refine⟨k+1,?_,kN (kc4 hO hB @Av @Ai) [],?_⟩
    ·omega
    ·omega
   ·have d1':¬((a.1:Nat):Int)=(a.2:Nat):=by omega
    by_cases d2:a.1∈S
    ·by_cases d3:a.2∈S
     ·have e:ZcG S a=true:=by simp[ZcG,d1,d2,d3]
      rw[yB d2]at g1;rw[yB d3]at g2;rw[e]at hO hB;by_cases d4:v=a.1
      ·subst d4;have d5':¬((a.2:Nat):Int)=(a.1:Nat):=by omega
       have d5:decide (a.2=a.1)=false:=by simp;omega
       rw[d5]at hB;rw[yB rfl]at hO;refine kw1 kO (kc7 hp hcl @d1' g1 g2 @Zgu @d5') kc0 ?_;refine⟨k+1,?_,kN (kc6 hO hB @Aw @Bool.and_self @Ai @Bool.toNat_true) [],?_⟩
       ·omega
       ·omega
      ·by_cases d5:v=a.2
       ·subst d5;have d4'':decide (a.1=a.2)=false:=by simp;omega
        rw[d4'']at hO;rw[yB rfl]at hB;refine kw1 kO (kc6 hp hcl @d1' g1 g2 @Zgu) kc0 ?_;refine⟨k+1,?_,kN (kc6 hO hB @Aw @Bool.and_self @Ai @Bool.toNat_true) [],?_⟩
        ·omega
        ·omega
       ·have d4':¬((a.1:Nat):Int)=(v:Nat):=by omega
        have d5':¬((a.2:Nat):Int)=(v:Nat):=by omega
        have d4'':decide (a.1=v)=false:=by simp;omega
        have d5'':decide (a.2=v)=false:=by simp;omega
        rw[d4'']at hO;rw[d5'']at hB;refine kw1 kO (kc8 hp hcl @d1' g1 g2 @Zgu @d4' @d5') kc0 ?_;refine⟨k+1,?_,kN (kc4 hO hB @Aw @Ai) [],?_⟩
        ·omega
        ·omega
     ·have e:ZcG S a=false:=by simp[ZcG,d3]
      rw[yB d2]at g1;rw[uU d3]at g2;rw[e]at hO hB;refine kw1 kO (kc6 hp hcl @d1' g1 g2 @Zgu) kc0 ?_;refine⟨k+1,?_,kN (kc4 hO hB @Av @Ai) [],?_⟩
      ·omega
      ·omega
    ·have e:ZcG S a=false:=by simp[ZcG,d2]
     rw[uU d2]at g1;rw[e]at hO hB;refine kw1 kO (kc5 hp hcl @d1' g1 @Zgu) kc0 ?_;refine⟨k+1,?_,kN (kc4 hO hB @Av @Ai) [],?_⟩
     ·omega
     ·omega
  ·have hk:k=l.length:=by omega
   subst hk;rw[yH];refine kw1 kO (kc1 hcl) kc0 ?_;exact⟨_,rfl,rfl,rfl,trivial⟩
theorem Zq7 (n:Nat)(S:List Nat):(Zfr n S).take n=Zfr n S:=uE (by rw[Zgu];exact uI n)
def ZzR :Option Nat->Int
 |some v=>v
 |none=>-1
theorem Zsw (S:List Nat)(p:Nat->Bool){k:Nat}(h:Zd8 k S p=none)(h2:(decide (k∈S)&&p k)=false):Zd8 (k+1) S p=none:=by
 rw[Zd8,qP,List.find?_append];rw[Zd8]at h;rw[h];simp only[List.find?_cons,h2];rfl
theorem ZAg (S:List Nat)(p:Nat->Bool){n k:Nat}(hk:k<n)(h:Zd8 k S p=none)(h2:(decide (k∈S)&&p k)=true):Zd8 n S p=some k:=by
 have e:List.range n=List.range k++k::(List.range (n-(k+1))).map (k+1+·):=by
  have h1:List.range n=List.range (k+1)++(List.range (n-(k+1))).map (k+1+·):=by
   rw[<-List.range_add];congr 1;omega
  rw[h1,qP,qJ];rfl
 rw[Zd8]at h;rw[Zd8,e,List.find?_append,h];simp only[List.find?_cons,h2];rfl
theorem Zjy (n:Nat)(l:List NA)(S:List Nat)(f:Nat)(p:Nat->Nat->Bool)(hi:InN n l)(hn:n<=64)(hll:l.length<=256)(hf:∀o b:Nat,Zaa Tryz.prog f [.int o, .int b] (.bool (p o b))):
  Zah Tryz.prog 237 [.d (.fn f []), .ptr 1000 0 0 0, .ptr 1001 0 0 0] [(1000, .cells [.int n, .d (Zal (castA l))]),(1001, .cells [.ref 1002 1 0 n n]),(1002, .row 1 (Zfr n S))] (.int (ZzR (Zd8 n S λ v=>p (Zdv l S v) (Zdu l S v)))) [(1000, .cells [.int n, .d (Zal (castA l))]),(1001, .cells [.ref 1002 1 0 n n]),(1002, .row 1 (Zfr n S))]:=by
 refine kM Tryz.func237 ?_;intro B X w0;refine kw1 kO kc0 kc0 ?_;refine Zae (λ(k:Nat)=>k<=n/\Zd8 k S (λ v=>p (Zdv l S v) (Zdu l S v))=none) (λ k=>[(0, .d (.fn f [])),(1, .ptr 1000 0 0 0),(2, .ptr 1001 0 0 0),(7, .int n),(8, .int k)]) (λ k=>[(1000, .cells [.int n, .d (Zal (castA l))]),(1001, .cells [.ref 1002 1 0 n n]),(1002, .row 1 (Zfr n S))]) (λ k=>n-k) 0 ?_ ?_ ?_
 ·exact⟨uG _,rfl⟩
 ·exact kN kc0 []
 ·rintro k ⟨hk,hinv⟩;rcases uC k n with hlt|hge
  ·have hg:=Znk S hlt;by_cases c1:k∈S
   ·rw[yB c1]at hg;have hd:=ZwU n l S k hi hll;have hp:=hf (Zdv l S k) (Zdu l S k);rcases hb:p (Zdv l S k) (Zdu l S k)with _|_
    ·rw[hb]at hp;refine kw1 kO (kc3 hg @Zgu @Zq7) (kc2 hd hp) ?_;refine⟨k+1,?_,kN kc0 [],?_⟩
     ·exact⟨by omega,Zsw S _ hinv (by rw[hb,Aw])⟩
     ·omega
    ·rw[hb]at hp;rw[ZAg S _ hlt hinv (by rw[hb,yB c1];rfl)];refine kw1 kO (kc3 hg @Zgu @Zq7) (kc2 hd hp) ?_;exact rfl
   ·rw[uU c1]at hg;refine kw1 kO (kc2 hg @Zgu) kc0 ?_;refine⟨k+1,?_,kN kc0 [],?_⟩
    ·exact⟨by omega,Zsw S _ hinv (by rw[uU c1];rfl)⟩
    ·omega
  ·have hk:n=k:=by omega
   subst hk;rw[hinv];refine kw1 kO kc0 kc0 ?_;exact rfl
end Go.Proofs.YtjjbhjnpeenbkaaGreatDoor.Cyc
namespace Go.Proofs.YtjjbhjnpeenbkaaGreatDoor.Cyc
open Go Go.PS Go.Proofs
open Go.Cy (NA InN bwd Zgj ZaZ Zbn Za7 Zfc)
open Go.Bd (Part)
set_option maxRecDepth 100000
attribute [local irreducible] Zad wpG Zaa Zah
def plF (R:List Nat)(k w:Nat):Nat:=if R.idxOf w<k then R.idxOf w else 0
theorem Zsz (n:Nat)(R:List Nat):List.replicate n (D.int 0)=Zb3 n (plF R 0):=by
 refine yS λ k=>?_
 rw[qT];rcases uC k n with hk|hk
 ·rw[Zf9 _ hk,if_pos hk];rfl
 ·rw[uL (by rw[Zfx];exact hk:(Zb3 n _).length<=k),if_neg (by omega)]
theorem ZxV {R:List Nat}(hn:R.Nodup){k v:Nat}(h:R[k]? =some v):R.idxOf v=k:=by
 obtain⟨h1,h2⟩:=uB.1 h;have hm:=uA h;have h3:=gV hm;have h4:=zT h3;exact(List.getElem_inj (h₀:=h3) (h₁:=h1) hn).1 (h4.trans h2.symm)
theorem ZsA {R:List Nat}(hn:R.Nodup){k v:Nat}(h:R[k]? =some v)(w:Nat):plF R (k+1) w=if w=v then k else plF R k w:=by
 have hi:=ZxV hn h;by_cases c:w=v
 ·subst c;rw[if_pos rfl,plF,hi,if_pos (by omega)]
 ·rw[if_neg c,plF,plF];by_cases c2:R.idxOf w<k
  ·rw[if_pos c2,if_pos (by omega)]
  ·rw[if_neg c2];split
   ·have h3:R.idxOf w=k:=by omega
    obtain⟨h1,h2⟩:=uB.1 h;exfalso;apply c;have h4:R.idxOf w<R.length:=by omega
    have h5:=zT h4;simp only[h3]at h5;rw[<-h5,h2]
   ·rfl
theorem Zly {n:Nat}{R:List Nat}(h:Part n 0 R){w:Nat}(hw:w<n):plF R R.length w=R.idxOf w:=by
 rw[plF,if_pos (gV (Go.Cy.Part.mem h hw))]
def Zem (M:List Nat)(l:List NA)(k:Nat):List Nat:=(List.range k).filter (Zgj M l)
theorem Zpy (M:List Nat){l:List NA}{k:Nat}{a:NA}(h:l[k]? =some a):Zem M l (k+1)=if bwd M a then Zem M l k++[k]else Zem M l k:=by
 rw[Zem,qP,gE,jV,Zgj,h];cases hb:bwd M a<;>simp[Zem,hb]
theorem Zpx (M:List Nat)(l:List NA)(k:Nat):(Zem M l k).length<=k:=gQ (gT _ _) (by simp)
end Go.Proofs.YtjjbhjnpeenbkaaGreatDoor.Cyc
