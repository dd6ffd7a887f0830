/- Copies of lists of arcs; the turning of arcs. -/
import Derived.Test.YtjjbhjnpeenbkaaGreatDoorDgB
import Derived.Test.YtjjbhjnpeenbkaaGreatDoorPSStep
import Derived.Test.YtjjbhjnpeenbkaaGreatDoorPSCy2
set_option linter.unusedSimpArgs false
set_option linter.unusedVariables false
set_option maxHeartbeats 16000000
namespace Go.Proofs.YtjjbhjnpeenbkaaGreatDoor.Cyc
open Go Go.PS Go.Proofs
set_option maxRecDepth 100000
attribute [local irreducible] ao wpG ah ax
theorem vo (l:List Arc):∀d,d∈l.map bo->d.cells.length=2:=oo bo 2 (λ _=>rfl) l
theorem KU :ah Tryz.prog 210 [aw []] (aw []):=by
 refine kE Tryz.func210 ?_;intro h B X Z;refine ac kO aa aa ?_;refine sf 4 rfl ?_;intro b;cases b
 ·refine ac (cE (Nat.beq 5) (b:=true)) aa aa ?_;exact dH rfl
 ·refine ac kO aa aa ?_;exact dH rfl
theorem th (l:List Arc)(h:l≠[])(V:l.length<=1000000):ax Tryz.prog 210 [.d (aw l)] [(2000, .dead)] (.ref 2000 2 0 l.length l.length) [(2000, .row 2 (l.map bo))]:=by
 have Y:(l.map bo).isEmpty=false:=by simpa using h
 have Z:0<l.length:=An.2 h;refine kM Tryz.func210 ?_;intro B X U;refine ac (cE (Nat.beq 5) (b:=false)) (ai Y @aA) aa ?_;refine eR [(2000,7)] [(2, .ref 2000 2 0 _ _)] [(2000, .row 2 _)] (by refine⟨?_,?_⟩<;>(repeat' first|exact fmn|refine fmc ⟨(by first|rfl|(simp(disch:=omega) only[go_sem,simprocAttr,inL];first|done|omega|(congr 1;done))),?_⟩);done) ?_;refine aV ?_;exact⟨rfl,uM.2 ⟨rfl,yB _⟩⟩
def uy (a:Arc):Arc:=(a.2,a.1)
def k9 (l:List Arc)(set:List Int):List Arc:=l.mapIdx λ i a=>if kd set i then uy a else a
theorem oz (l:List Arc)(set:List Int):(k9 l set).length=l.length:=by simp[k9]
theorem rt {l:List Arc}{set:List Int}{k:Nat}{a:Arc}(h:l[k]? =some a):(k9 l set)[k]? =some (if kd set k then uy a else a):=by
 simp[k9,List.getElem?_mapIdx,h]
theorem L4 (l:List Arc):k9 l []=l:=by
 refine yX λ u=>?_
 rcases uD u l.length with h|h
 ·obtain⟨a,Z⟩:=ak h;rw[rt Z,Z];simp[kd]
 ·rw[uL (by rw[oz];exact h),uL h]
theorem Mn {set:List Int}{j:Nat}{x:Int}(h:set[j]? =some x)(n:Int):kd (set.take (j+1)) n=(kd (set.take j) n||decide (x=n)):=by
 simp[kd,aM h]
theorem L8 {l:List Arc}{set:List Int}{j i:Nat}{a:Arc}(V:set[j]? =some (i:Int))(X:l[i]? =some a):
  k9 l (set.take (j+1))=(k9 l (set.take j)).set i (uy a):=by
 refine yX λ u=>?_
 rcases uD u l.length with h|h
 ·obtain⟨b,Z⟩:=ak h;rw[rt Z,Mn V,qF,rt Z,oz];by_cases Y:i=u
  ·subst Y;rw[X]at Z;cases Z;simp[h]
  ·have:¬(i:Int)=u:=xA;simp[Y,this]
 ·rw[uL (by rw[oz];exact h),uL (by rw[yJ,oz];exact h)]
theorem LX {e:Nat->Int}{n k:Nat}(h:iu e n=0)(X:k<n):e k=0:=by
 induction n with
 |zero=>omega
 |succ n V=>
  simp only[iu]at h;split at h
  ·rename_i Z;rcases qP.1 X with Y|rfl
   ·exact V Z Y
   ·exact h
  ·rename_i Z;exact(Z h).elim
theorem Fl {l:List Int}{n:Int}(h:mz l n=0){k:Nat}{x:Int}(Z:l[k]? =some x):0<=x/\x<n:=by
 have:=LX h (uB.1 Z).1;simp only[mW,Z]at this;split at this
 ·omega
 ·omega
def lO (g:Gr)(set:List Int):Gr×Int:=if gOk g then(if mz set g.2.length=0 then((g.1,k9 g.2 set),0)else((0,[]),mz set g.2.length))else((0,[]),1)
theorem Jd (g:Gr)(set:List Int):ah Tryz.prog 158 [gD g,aj set] (.tup [gD (lO g set).1, .int (lO g set).2]):=by
 rcases h:gOk g with _|_
 ·have S:ah Tryz.prog 97 [gD g] (.bool false):=h▸mU g;have e:lO g set=((0,[]),1):=by simp[lO,h]
  rw[e];refine kE Tryz.func158 ?_;intro Z B X K;refine ac kO aa (ae S) ?_;refine⟨_,rfl,⟨_,_,_,_,rfl,?_⟩,ap ?_,trivial⟩
  ·simp(disch:=omega) only[go_sem,simprocAttr];rfl
  ·rfl
 ·have S:ah Tryz.prog 97 [gD g] (.bool true):=h▸mU g;obtain⟨J,I,H,G⟩:=rx h;obtain⟨n,l⟩:=g;dsimp only at J I H G;have R:=Nv set l.length;rcases gJ (mz set l.length=0)with c|c
  ·have e:lO (n,l) set=((n,k9 l set),0):=by simp[lO,h,c]
   rw[e];rw[c]at R;rcases gJ (l=[])with V|V
   ·subst V;have N:set=[]:=by
     cases set with
     |nil=>rfl
     |cons x t=>
      have:=Fl (x:=x) (k:=0) c rfl;simp at this;omega
    subst N;refine kE Tryz.func158 ?_;intro Z B X K;have Y:=KU;refine ac kO aa (av S R Y) ?_;refine aq (λ(k:Nat)=>k=0) (λ k=>[(4, .ptr 4 0 0 0),(7, .ptr 7 0 0 0),(30, .int 0),(31, .int k)]) (λ k=>[(4, .cells [.int 0, .nilS]),(7, .cells [.int n, .d (.sl [])])]) (λ k=>k) 0 ?_ ?_ ?_
    ·rfl
    ·exact kN aa []
    ·rintro k rfl;refine ac kO aa aa ?_;refine⟨_,rfl,⟨_,_,_,_,rfl,?_⟩,ap ?_,trivial⟩
     ·simp(disch:=omega) only[go_sem,simprocAttr];rfl
     ·rfl
   ·have Y:=th l V xA;refine kE Tryz.func158 ?_;intro Z B X K;have M:=bI 1 Z rfl;rw[uC]at M;refine ac kO aa (av S R (dM [(2000,27)] Y)) ?_;refine aq (λ(k:Nat)=>k<=set.length) (λ k=>[(2, .ptr 2 0 0 0),(4, .ptr 4 0 0 0),(7, .ptr 7 0 0 0),(29, .d (aj set)),(30, .int set.length),(31, .int k)]) (λ k=>[(2, .cells [.int n, .d (aw l)]),(4, .cells [.int 0, .nilS]),(7, .cells [.int n, .ref 27 2 0 l.length l.length]),(27, .row 2 ((k9 l (set.take k)).map bo))]) (λ k=>set.length-k) 0 ?_ ?_ ?_
    ·exact uF _
    ·exact kN (ai @yQ.{0} @L4) []
    ·intro k A;rcases uD k set.length with Q|E
     ·obtain⟨x,L⟩:=ak Q;have C:=Fl c L;obtain⟨i,rfl⟩:∃i:Nat,x=i:=⟨x.toNat,xA⟩;obtain⟨p,O⟩:=ak (show i<l.length by omega);have F:=rt (set:=set.take k) O;have U:=L8 L O;have T:=oz l (set.take k);refine ac kO (aE L O F T) aa ?_;refine⟨k+1,?_,kN (ai @U @yW.{0,0}) [],?_⟩
      ·omega
      ·omega
     ·refine ac kO aa aa ?_;have:k=set.length:=xA;subst this;refine⟨_,rfl,⟨_,_,_,_,rfl,?_⟩,ap ?_,trivial⟩
      ·simp(disch:=omega) only[go_sem,simprocAttr];simp[toD,gD,aw,oz,uE]
      ·rfl
  ·have e:lO (n,l) set=((0,[]),mz set l.length):=by simp[lO,h,c]
   rw[e];refine kE Tryz.func158 ?_;intro Z B X K;refine ac kO aa (ai S R) ?_;refine⟨_,rfl,⟨_,_,_,_,rfl,?_⟩,ap ?_,trivial⟩
   ·simp(disch:=omega) only[go_sem,simprocAttr];rfl
   ·rfl
open Go.Cy (NA)
def tzF :Nat->Nat->Nat
 |0,_=>0
 |f+1,x=>if x%2=1 then 0 else tzF f (x/2)+1
def tz (x:Nat):Nat:=tzF 8 x
theorem Tm :tabs Tryz.prog=[(1,ja)]:=xD
theorem Tl :(lu [(1,ja)] 1).length=64:=by decide+kernel
def tzI (x:Nat):Nat:=((IntKind.u64.wrap (IntKind.u64.wrap ((BitVec.ofInt 64 (x:Int)&&&BitVec.ofInt 64 (IntKind.u64.wrap (-(x:Int)))).toNat:Int)*285870213051353865)).fdiv (2^min 58 64)).toNat
theorem TB :∀x:Nat,x<256->0<x->(IntKind.u64.wrap (IntKind.u64.wrap ((BitVec.ofInt 64 (x:Int)&&&BitVec.ofInt 64 (IntKind.u64.wrap (-(x:Int)))).toNat:Int)*285870213051353865)).fdiv (2^min 58 64)=(tzI x:Int)/\tzI x<64/\ja[tzI x]? =some (tz x:Int):=by decide+kernel
theorem TC {k:Nat}{v:Int}(h:ja[k]? =some v):(lu [(1,ja)] 1).drop k=D.sc (.int .u8 v)::(lu [(1,ja)] 1).drop (k+1):=by
 have Z:(lu [(1,ja)] 1)[k]? =some (D.sc (.int .u8 v)):=by
  show(ja.map λ v=>D.sc (.int .u8 v))[k]? =_;rw[uJ,h];rfl
 obtain⟨Y,X⟩:=uB.1 Z;rw[qV Y,X]
theorem Jv (x:Nat)(S:0<x)(h:x<256):ah Tryz.prog 261 [.sc (.int .u64 x)] (.int (tz x)):=by
 obtain⟨k,Z,Y,V⟩:∃k:Nat,(IntKind.u64.wrap (IntKind.u64.wrap ((BitVec.ofInt 64 (x:Int)&&&BitVec.ofInt 64 (IntKind.u64.wrap (-(x:Int)))).toNat:Int)*285870213051353865)).fdiv (2^min 58 64)=(k:Int)/\k<64/\ja[k]? =some (tz x:Int):=⟨_,TB x h S⟩;have U:=TC V;have Q:(0:Int)<=k:=Int.natCast_nonneg _;have T:IntKind.i64.wrap (tz x:Int)=tz x:=by
  have:∀x:Nat,x<256->IntKind.i64.wrap (tz x:Int)=tz x:=by decide+kernel
  exact this x h
 refine kE Tryz.func261 ?_;intro R B X O;refine ac kO (bV @Tm Z U T Y @Tl @uK) aa ?_;exact ap rfl
theorem Jw (x:Nat)(Z:0<x)(Y:x<256):ah Tryz.prog 236 [.sc (.int .u64 x)] (.int (tz x)):=by
 have h:=Jv x Z Y;refine kE Tryz.func236 ?_;intro V B X U;refine ac kO aa (ae h) ?_;exact ap rfl
end Go.Proofs.YtjjbhjnpeenbkaaGreatDoor.Cyc
namespace Go.Proofs.YtjjbhjnpeenbkaaGreatDoor.Cyc
open Go Go.PS Go.Proofs
open Go.Cy (NA d7 eY costAt kz i9 kc atN inB jg fmF j0)
set_option maxRecDepth 100000
attribute [local irreducible] ao wpG ah ax
abbrev aG (n:Nat):D:= .int n
abbrev br (l:List Nat):D:= .sl (l.map aG)
def cy (c:Nat->Nat->Nat)(f:PV):List PV:=(List.range 64).map (λ i=>PV.int (c (i/8) (i%8)))++[f]
theorem sJ (c:Nat->Nat->Nat)(f:PV):(cy c f).length=65:=by simp[cy]
theorem Ud (c:Nat->Nat->Nat)(f:PV){v u:Nat}(V:v<8)(X:u<8):∃r,(cy c f).drop (v*8+u)= .int (c v u)::r:=by
 have h:(cy c f)[v*8+u]? =some (.int (c v u)):=by
  rw[cy,qZ (by simp;omega),uJ,yZ xA];simp only[qB];rw[show(v*8+u)/8=v by omega,show(v*8+u)%8=u by omega]
 obtain⟨Z,Y⟩:=uB.1 h;exact⟨_,by rw[qV Z,Y]⟩
theorem I3 (n:PV)(c:Nat->Nat->Nat)(f:PV){v u:Nat}(Z:v<8)(h:u<8):∃r,(n::cy c f).drop (1+v*8+u)= .int (c v u)::r:=by
 rw[show 1+v*8+u=(v*8+u)+1 by omega,Ak];exact Ud c f Z h
theorem AA (c:Nat->Nat->Nat)(f:PV):(cy c f).drop 64=[f]:=by
 rw[cy,List.drop_left' xB]
theorem vy :∀x:Nat,x<256->0<x->tz x<8/\Go.Cy.bits 8 x=tz x::Go.Cy.bits 8 (x&&&(x-1))/\(x&&&(x-1))<x:=by decide+kernel
theorem CH {n s:Nat}(h:n<=8)(Z:s<2^n):Go.Cy.bits n s=Go.Cy.bits 8 s:=by
 have e:List.range 8=List.range n++(List.range (8-n)).map (n+·):=by
  rw[show 8=n+(8-n) by omega,List.range_add];simp
 rw[Go.Cy.bits,Go.Cy.bits,e,gO];have:((List.range (8-n)).map (n+·)).filter (λ u=>s.testBit u)=[]:=by
  rw[List.filter_eq_nil_iff];intro u Y;obtain⟨k,_,rfl⟩:=uR.1 Y;rw[zV (gS Z (zO xC xA))]
  decide
 rw[this,yS]
theorem TE {n x:Nat}(h:n<=8)(Z:0<x)(V:x<2^n):tz x<n:=by
 have:=Go.Cy.pow_le8 h;obtain⟨_,Y,_⟩:=vy x xA Z;have X:tz x∈Go.Cy.bits n x:=by rw[CH h V,Y];simp
 exact(Go.Cy.mem_bits.1 X).1
def mM (f:Nat->Nat)(x:Nat):Nat:=((Go.Cy.bits 8 x).map f).sum
theorem Tb {f:Nat->Nat}{x:Nat}(Y:x<256)(h:0<x):mM f x=f (tz x)+mM f (x&&&(x-1)):=by
 obtain⟨_,Z,_⟩:=vy x Y h;rw[mM,Z];simp[mM]
theorem Tc (f:Nat->Nat):mM f 0=0:=by
 have:Go.Cy.bits 8 0=[]:=by decide+kernel
 rw[mM,this];rfl
theorem Ig {f:Nat->Nat}{k:Nat}:∀{l:List Nat},(∀u,u∈l->f u<=k)->(l.map f).sum<=l.length*k
 |[],_=>xB
 |x::l,h=>by
  have Y:=h x xB;have X:=Ig λ u Z=>h u (uP _ Z)
  simp only[uS,jE,uV,qN];omega
theorem Ta {f:Nat->Nat}{k x:Nat}(h:∀u,f u<=k):mM f x<=8*k:=by
 refine gY (Ig λ u _=>h u) (yR _ ?_);exact gY (jA _ _) xB
theorem K7 (n:Nat)(c:Nat->Nat->Nat)(Z:List Nat)(s:Nat):eY n c Z s<=1048576:=by
 cases s with
 |zero=>rw[Go.Cy.costN_zero];omega
 |succ k=>rw[Go.Cy.costN_succ,costAt];exact Go.Cy.foldMin_le.1
def fO (n:Nat)(c:Nat->Nat->Nat)(Z:List Nat)(k v:Nat):Nat:=kc (i9 n Z (k+1)) (kz n c (d7 n c Z k) (k+1)) (List.range v) 1048576
theorem JA (n:Nat)(c:Nat->Nat->Nat)(Z:List Nat)(k:Nat):fO n c Z k 0=1048576:=rfl
theorem Jz (n:Nat)(c:Nat->Nat->Nat)(Z:List Nat)(k v:Nat):fO n c Z k (v+1)=if i9 n Z (k+1) v=true then min (fO n c Z k v) (kz n c (d7 n c Z k) (k+1) v)else fO n c Z k v:=by
 simp[fO,kc,qE]
def ia (n:Nat)(c:Nat->Nat->Nat)(Z:List Nat)(L k:Nat)(x:Nat):List D:=(d7 n c Z k).map aG++aG x::List.replicate (L-(k+2)) (.int 0)
def ko (n:Nat)(c:Nat->Nat->Nat)(Z:List Nat)(L k:Nat):List D:=(d7 n c Z k).map aG++List.replicate (L-(k+1)) (.int 0)
theorem Q7 (n:Nat)(c:Nat->Nat->Nat)(Z:List Nat)(L k x y:Nat):(ia n c Z L k x).set (k+1) (aG y)=ia n c Z L k y:=by
 have h:=Go.Cy.costL_len n c Z k;rw[ia,List.set_append_right _ _ (by simp[h]),uC,h,jK];rfl
theorem Rc (n:Nat)(c:Nat->Nat->Nat)(Z:List Nat){L k:Nat}(y:Nat)(Y:k+1<L):(ko n c Z L k).set (k+1) (aG y)=ia n c Z L k y:=by
 have h:=Go.Cy.costL_len n c Z k;rw[ko,List.set_append_right _ _ (by simp[h]),uC,h,jK,show L-(k+1)=(L-(k+2))+1 by omega,zS];rfl
theorem Q6 (n:Nat)(c:Nat->Nat->Nat)(Z:List Nat){L k x:Nat}(h:k+1<L):(ia n c Z L k x).length=L:=by
 simp[ia,Go.Cy.costL_len];omega
theorem Ra (n:Nat)(c:Nat->Nat->Nat)(Z:List Nat){L k:Nat}(h:k<L):(ko n c Z L k).length=L:=by
 simp[ko,Go.Cy.costL_len];omega
theorem Dw (n:Nat)(c:Nat->Nat->Nat)(Z:List Nat){k s:Nat}(h:s<=k):(d7 n c Z k)[s]? =some (eY n c Z s):=by
 have X:s<(d7 n c Z k).length:=by rw[Go.Cy.costL_len];omega
 have Y:=Go.Cy.costL_at n c Z h;rw[atN,uT X]at Y;rw[uT X];simp only[yN]at Y;rw[Y]
theorem Q5 (n:Nat)(c:Nat->Nat->Nat)(Z:List Nat){L k x s:Nat}(h:s<=k):(ia n c Z L k x)[s]? =some (aG (eY n c Z s)):=by
 rw[ia,qZ (by simp[Go.Cy.costL_len];omega),uJ,Dw n c Z h];rfl
theorem Q3 (n:Nat)(c:Nat->Nat->Nat)(Z:List Nat)(L k x:Nat):(ia n c Z L k x)[k+1]? =some (aG x):=by
 have h:=Go.Cy.costL_len n c Z k;rw[ia,qL (by simp[h])];simp[h]
theorem Q9 (n:Nat)(c:Nat->Nat->Nat)(Z:List Nat){L k s:Nat}(h:s<=k):(ko n c Z L k)[s]? =some (aG (eY n c Z s)):=by
 rw[ko,qZ (by simp[Go.Cy.costL_len];omega),uJ,Dw n c Z h];rfl
theorem Rb (n:Nat)(c:Nat->Nat->Nat)(Z:List Nat){L k:Nat}(h:k+1<L):(ko n c Z L k)[k+1]? =some (.int 0):=by
 have Y:=Go.Cy.costL_len n c Z k;rw[ko,qL (by simp[Y]),gA];simp[Y];omega
theorem Q4 (n:Nat)(c:Nat->Nat->Nat)(Z:List Nat)(L k:Nat):ia n c Z L k (fO n c Z k n)=ko n c Z L (k+1):=by
 have:d7 n c Z (k+1)=d7 n c Z k++[fO n c Z k n]:=rfl;rw[ia,ko,this,uO,qG];rfl
theorem Rd (n:Nat)(c:Nat->Nat->Nat)(Z:List Nat){L:Nat}(h:0<L):ko n c Z L 0=List.replicate L (.int 0):=by
 obtain⟨k,rfl⟩:∃k,L=k+1:=⟨L-1,xA⟩;rw[zS];rfl
theorem Fb (n:Nat)(c:Nat->Nat->Nat)(Z:List Nat)(h8:n<=8)(G:∀u v,c u v<=256)(hl:Z.length=n)(hf:∀v,atN Z v<2^n):
  ax Tryz.prog 207 [.ptr 1000 0 0 0] [(1000, .cells (.int n::cy c (.ref 1001 1 0 n n))),(1001, .row 1 (Z.map aG))] (.int (jg n c Z)) [(1000, .cells (.int n::cy c (.ref 1001 1 0 n n))),(1001, .row 1 (Z.map aG))]:=by
 have S:=Go.Cy.pow_pos' n;have hp8:=Go.Cy.pow_le8 h8;have hsh:=uo n h8;obtain⟨L,hL⟩:∃L,L=2^n:=⟨_,rfl⟩;rw[<-hL]at S hp8 hsh;have U:=AA c (.ref 1001 1 0 n n);refine kM Tryz.func207 ?_;intro B X w0;refine ac kO (ae hsh) aa ?_;refine aq (λ(k:Nat)=>k<L) (λ k=>[(0, .ptr 1000 0 0 0),(3, .ref 14 1 0 L L),(4, .int (k+1:Nat))]) (λ k=>[(14, .row 1 (ko n c Z L k)),(1000, .cells (.int n::cy c (.ref 1001 1 0 n n))),(1001, .row 1 (Z.map aG))]) (λ k=>L-k) 0 ?_ ?_ ?_
 ·exact S
 ·exact kN (ae (Rd n c Z S)) []
 ·intro k hk;have z:=Ra n c Z hk;rcases uD (k+1) L with O|hge
  ·have s:=Rc n c Z 1048576 O;have hnx:=Rb n c Z O;refine ac kO (aE U z s hnx) aa ?_;refine aq (λ(v:Nat)=>v<=n) (λ v=>[(0, .ptr 1000 0 0 0),(3, .ref 14 1 0 L L),(4, .int (k+1:Nat)),(27, .int n),(28, .int v)]) (λ v=>[(14, .row 1 (ia n c Z L k (fO n c Z k v))),(1000, .cells (.int n::cy c (.ref 1001 1 0 n n))),(1001, .row 1 (Z.map aG))]) (λ v=>n-v) 0 ?_ ?_ ?_
   ·exact uF _
   ·exact kN (ae @JA) []
   ·intro v hv;have T:(ia n c Z L k (fO n c Z k v)).length=L:=Q6 n c Z O;rcases uD v n with hvl|hvg
    ·obtain⟨f,R⟩:=ak (show v<Z.length by omega);have F:atN Z v=f:=by rw[atN,R];rfl
     have hf8:f<2^n:=by rw[<-F];exact hf v
     have H:=RY (k+1) xA v xA;have Y:=Jz n c Z k v;by_cases V:(k+1).testBit v=true
     ·rw[if_pos V]at H;obtain⟨p,hp⟩:∃p,p=2^v:=⟨_,rfl⟩;obtain⟨r,hr⟩:∃r,r=k+1-2^v:=⟨_,rfl⟩;have hrk:=(Go.Cy.clr (k+1) xA v xA V).1;rw[<-hr]at hrk;have hp8':p<256:=by rw[hp];exact Bk (n:=8) xC xA
      have K:=uo v xA;rw[<-hp]at K;have J:=CR (a:=k+1) (b:=p) xA xA;rw[hp,JF (k+1) xA v xA V,<-hr,<-hp]at J;have e3:=CR (a:=f) (b:=r) xA xA;have hz:=JG (b:=r) hf8;have N:i9 n Z (k+1) v=inB n f r:=by rw[i9,V,F,hr];rfl
      rw[N]at Y;have hg:=Q5 n c Z (L:=L) (x:=fO n c Z k v) (show r<=k by omega);rcases E:inB n f r with _|_
      ·rw[E]at Y hz;have M:¬((kx f r:Nat):Int)=0:=λ h=>by have:=hz.1 xA;cases this
       refine ac kO (bj U T R H K J e3 @M) aa ?_;refine⟨v+1,?_,eL [] _ _ (by refine⟨?_,?_⟩<;>(repeat' first|exact fmn|refine fmc ⟨(by first|rfl|(simp(disch:=omega) only[go_sem,simprocAttr,inL,Y,if_neg kY];first|done|omega|(congr 1;done))),?_⟩);done),?_⟩
       ·omega
       ·omega
      ·rw[E]at Y hz;have M:=hz.2 rfl;have hr8:r<256:=xA;have hcg:kz n c (d7 n c Z k) (k+1) v=eY n c Z r+mM (c v) r:=by
        rw[kz,<-hr,Go.Cy.costL_at n c Z xA,CH h8 xA];rfl
       have hcn:=K7 n c Z r;have hsb:=Ta (x:=r) (G v);refine ac kO (bj U T R H K J e3 (ai @M hg)) aa ?_;refine aq (λ(q:Nat×Nat)=>match q with|(x,y)=>x<=r/\y+mM (c v) x=kz n c (d7 n c Z k) (k+1) v) (λ(x,y)=>[(0, .ptr 1000 0 0 0),(3, .ref 14 1 0 L L),(4, .int (k+1:Nat)),(5, .int v),(7, .int y),(8, .int x),(27, .int n),(28, .int v)]) (λ(x,y)=>[(14, .row 1 (ia n c Z L k (fO n c Z k v))),(1000, .cells (.int n::cy c (.ref 1001 1 0 n n))),(1001, .row 1 (Z.map aG))]) (λ(x,y)=>x) (r,eY n c Z r) ?_ ?_ ?_
       ·exact⟨uI _,hcg.symm⟩
       ·exact kN aa []
       ·rintro⟨x,y⟩ ⟨hxr,hy⟩;dsimp only at hxr hy|-;rcases qO x with rfl|Q
        ·rw[Tc,gX]at hy;have hcu:=Q3 n c Z L k (fO n c Z k v);have hst:=Q7 n c Z L k (fO n c Z k v);have A:(if(y:Int)<(fO n c Z k v:Nat)then(y:Int)else(fO n c Z k v:Nat))=(min (fO n c Z k v) y:Nat):=xA;refine ac kO (aQ U T hcu hst A) aa ?_;refine⟨v+1,?_,kN (av @Y @if_pos.{0} hy) [],?_⟩
         ·omega
         ·omega
        ·have htz:=Jw x Q xA;have htn:=TE h8 Q (by omega:x<2^n);have hstep:=Tb (f:=c v) (show x<256 by omega) Q;have C:=(vy x xA Q).2.2;obtain⟨q,hq⟩:=I3 (.int n) c (.ref 1001 1 0 n n) (show v<8 by omega) (show tz x<8 by omega);have hcv:=G v (tz x);have hw:=z7 (x:=(y:Int)+(c v (tz x):Nat)) xA xA;have hu64:IntKind.u64.wrap (x:Int)=x:=by
          have:∀x:Nat,x<256->IntKind.u64.wrap (x:Int)=x:=by decide+kernel
          exact this x xA
         have I:=Kr (a:=x) (b:=x-1) xA xA;have hx1':((x:Int)-1)=((x-1:Nat):Int):=xA;refine ac kO (bV U T hu64 hq hw @hx1' I) (ae htz) ?_;refine⟨(x&&&(x-1),y+c v (tz x)),?_,kN aa [],?_⟩
         ·dsimp only;exact⟨xA,xA⟩
         ·exact C
     ·rw[if_neg V]at H;have N:i9 n Z (k+1) v=false:=by rw[i9];simp[V]
      rw[N]at Y;refine ac kO (aE U T R H) aa ?_;refine⟨v+1,?_,eL [] _ _ (by refine⟨?_,?_⟩<;>(repeat' first|exact fmn|refine fmc ⟨(by first|rfl|(simp(disch:=omega) only[go_sem,simprocAttr,inL,Y,if_neg kY];first|done|omega|(congr 1;done))),?_⟩);done),?_⟩
      ·omega
      ·omega
    ·have:v=n:=xA;subst this;refine ac kO (ae U) aa ?_;refine⟨k+1,?_,kN (ae @Q4) [],?_⟩
     ·omega
     ·omega
  ·have:k+1=L:=xA;have hlg:=Q9 n c Z (L:=L) (k:=k) (uI k);have K:(L:Int)-1=k:=xA;have J:jg n c Z=eY n c Z k:=by rw[jg];congr 1;omega
   rw[J];refine ac kO (av z K hlg) aa ?_;exact rfl
end Go.Proofs.YtjjbhjnpeenbkaaGreatDoor.Cyc
namespace Go.Proofs.YtjjbhjnpeenbkaaGreatDoor.Cyc
open Go Go.PS Go.Proofs
open Go.Cy (NA InN atN jg cnt dE lJ eI db cq)
set_option maxRecDepth 100000
attribute [local irreducible] ao wpG ah ax
def castA (l:List NA):List Arc:=l.map λ a=>((a.1:Int),(a.2:Int))
theorem castA_len (l:List NA):(castA l).length=l.length:=by simp[castA]
theorem castA_get {l:List NA}{k:Nat}{a:NA}(h:l[k]? =some a):(castA l)[k]? =some ((a.1:Int),(a.2:Int)):=by simp[castA,h]
theorem AB (objs:Nat->Ob)(k:Nat)(c:Nat->Nat->Nat)(f:PV):(cy c f).flatMap (PV.refs objs k)=PV.refs objs k f:=by
 have h:∀l:List Nat,(l.map (λ i=>PV.int (c (i/8) (i%8)))).flatMap (PV.refs objs k)=[]:=by
  intro l
  induction l with
  |nil=>rfl
  |cons a l Z=>rw[uS,qM,Z];cases k<;>rfl
 rw[cy,zE,h];simp
theorem AC (g:Nat->Nat)(c:Nat->Nat->Nat)(f:PV):(cy c f).map (PV.ren g)=cy c (f.ren g):=by
 rw[cy,cy,uO,gU];rfl
theorem Ue (n:PV)(c Y:Nat->Nat->Nat)(f:PV){u v:Nat}(U:u<8)(T:v<8)(h:∀i j,i<8->j<8->Y i j=if i=u/\j=v then c u v+1 else c i j):
  dI (n::cy c f) (1+u*8+v) [.int ((c u v:Int)+1)]=n::cy Y f:=by
 have e:dI (n::cy c f) (1+u*8+v) [.int ((c u v:Int)+1)]=n::dI (cy c f) (u*8+v) [.int ((c u v:Int)+1)]:=by
  rw[dI,dI,show 1+u*8+v=(u*8+v)+1 by omega,Bu];simp only[uV,uU,yU,gK];rw[show u*8+v+1+1=(u*8+v+1)+1 from rfl,Ak]
 rw[e]
 congr 1
 refine yX λ k=>?_
 rw[ry _ _ _ (by simp[sJ];omega)];simp only[uV,uU,yU];rcases uD k 64 with X|X
 ·have Z:∀d:Nat->Nat->Nat,(cy d f)[k]? =some (.int (d (k/8) (k%8))):=λ d=>by
   rw[cy,qZ (by simp;omega),uJ,yZ X];rfl
  rw[Z,Z,h (k/8) (k%8) xA xA];by_cases V:k=u*8+v
  ·subst V;rw[if_neg xA,if_pos xA,if_pos xA];simp
  ·rw[if_neg (show¬(k/8=u/\k%8=v) by omega)];split
   ·rfl
   ·rw[if_neg xA]
 ·rw[if_neg xA,if_neg xA];have Z:∀d:Nat->Nat->Nat,(cy d f)[k]? =[f][k-64]? :=λ d=>by
   rw[cy,qL (by simp;omega)];simp
  rw[Z,Z]
theorem I4 (n:PV)(c:Nat->Nat->Nat)(f f':PV):dI (n::cy c f) 65 [f']=n::cy c f':=by
 have h:(List.map (λ i=>PV.int (c (i/8) (i%8))) (List.range 64)).length=64:=xB;rw[dI,cy,show 65=64+1 from rfl,Bu,List.take_left' h];simp only[uV,uU,yU];rw[kZ xB];simp[cy]
theorem C8 (l:List NA)(a:NA)(u v:Nat):cnt (l++[a]) u v=cnt l u v+Go.Cy.ind a u v:=by
 have:=Go.Cy.cnt_cons a [] u v;simp only[cnt,gO,uH,kV,uU]at this|-;omega
theorem C7 (l:List NA)(u v:Nat):cnt l u v<=l.length:=jA _ _
theorem F0 {Z:List Nat}{v u f:Nat}(h:Z[v]? =some f):(Z.map aG).set v (.int ((f|||2^u:Nat):Int))=(dE Z v u).map aG:=by
 rw[dE,yW,atN,h];rfl
theorem nw (l:List Nat):∀d,d∈l.map aG->d.cells.length=1:=oo aG 1 (λ _=>rfl) l
theorem ji (x:Int):∀d,d∈[D.int x]->d.cells.length=1:=by intro d h;rw[uX]at h;subst h;rfl
def jf (g:Gr):List Nat×Int:=if gOk g then(if 8<g.1 then([],2)else(cq g.1.toNat (g.2.map λ a=>(a.1.toNat,a.2.toNat)),0))else([],1)
theorem Je (n:Nat)(l:List NA)(h:gOk ((n:Int),castA l)=true)(hi:InN n l)(hll:l.length<=256)(G:n<=8):ah Tryz.prog 156 [gD ((n:Int),castA l)] (.tup [br (cq n l), .int 0]):=by
 have hv:ah Tryz.prog 97 [gD ((n:Int),castA l)] (.bool true):=h▸mU _;have Y:=castA_len l;refine kE Tryz.func156 ?_;intro hat B X w0;refine ac kO (ae Y) (ae hv) ?_;refine aq (λ(k:Nat)=>k<=l.length) (λ k=>[(1, .ptr 1 0 0 0),(4, .ptr 26 0 0 0),(28, .d (aw (castA l))),(29, .int l.length),(30, .int k)]) (λ k=>[(1, .cells [.int n, .d (aw (castA l))]),(26, .cells (.int n::cy (cnt (l.take k)) (.ref 24 1 0 n n))),(24, .row 1 ((List.replicate n 0).map aG))]) (λ k=>l.length-k) 0 ?_ ?_ ?_
 ·exact uF _
 ·exact kN (ae @yT.{0,0}) []
 ·intro k I;rcases uD k l.length with K|hge
  ·obtain⟨a,M⟩:=ak K;have H:=castA_get M;have A:=hi a (uA M);have htk:l.take (k+1)=l.take k++[a]:=aM M;by_cases c:a.1=a.2
   ·have e:cnt (l.take (k+1))=cnt (l.take k):=by
     funext u v
     rw[htk,C8,Go.Cy.ind,if_neg (λ h=>h.1 c)];rfl
    have O:(a.1:Int)=a.2:=xA;refine ac kO (av H Y @O) aa ?_;refine⟨k+1,?_,kN (ae e) [],?_⟩
    ·omega
    ·omega
   ·have O:¬(a.1:Int)=a.2:=xA;obtain⟨q,hq⟩:=I3 (.int n) (cnt (l.take k)) (.ref 24 1 0 n n) (show a.1<8 by omega) (show a.2<8 by omega);have hle:=C7 (l.take k) a.1 a.2;rw[yA]at hle;have hw:=z7 (x:=(cnt (l.take k) a.1 a.2:Int)+1) xA xA;have hs:=Ue (.int n) (cnt (l.take k)) (cnt (l.take (k+1))) (.ref 24 1 0 n n) (show a.1<8 by omega) (show a.2<8 by omega) (λ i j _ _=>by
     rw[htk,C8,Go.Cy.ind];by_cases V:i=a.1/\j=a.2
     ·rw[if_pos V,if_pos ⟨c,V.1.symm,V.2.symm⟩,V.1,V.2]
     ·rw[if_neg V,if_neg (λ h=>V ⟨h.2.1.symm,h.2.2.symm⟩)];rfl)
    have hxl:(PV.int n::cy (cnt (l.take k)) (.ref 24 1 0 n n)).length=66:=by rw[uV,sJ]
    refine ac kO (bV H Y @O hq hw hs @sJ) aa ?_;refine⟨k+1,?_,kN aa [],?_⟩
    ·omega
    ·omega
  ·have I:k=l.length:=xA;subst I;rw[yE];have hrn:(List.replicate n 0).length=n:=yH;have T:∀u v,cnt l u v<=256:=λ u v=>gY (C7 l u v) hll
   have F:=Go.Cy.dec_all G hi (by omega:l.length<1048576);have hl0:=Fb n (cnt l) (List.replicate n 0) G T hrn (λ v=>by rw[Go.Cy.atN_rep];exact Go.Cy.pow_pos' n);refine ac kO (av Y @AB @qM.{0,0}) (ae (dM [(1000,26),(1001,24)] hl0)) ?_;refine kR aa [(900,24)] [(1, .ptr 1 0 0 0),(4, .ptr 26 0 0 0),(7, .int (db n l)),(8, .nilS),(58, .d (aw (castA l))),(59, .int l.length),(60, .int (0:Nat))] [(1, .cells [.int n, .d (aw (castA l))]),(26, .cells (.int n::cy (cnt l) (.ref 900 1 0 n n))),(900, .row 1 ((List.replicate n 0).map aG))] ?_;refine aC _ (dg 8 901 1 rfl rfl) ?_;refine aq (λ(k:Nat)=>k<=l.length) (λ k=>[(1, .ptr 1 0 0 0),(4, .ptr 26 0 0 0),(7, .int (db n l)),(8, .ref 901 1 0 (eI n (cnt l) (db n l) l k).2.length (eI n (cnt l) (db n l) l k).2.length),(58, .d (aw (castA l))),(59, .int l.length),(60, .int k)]) (λ k=>[(1, .cells [.int n, .d (aw (castA l))]),(26, .cells (.int n::cy (cnt l) (.ref 900 1 0 n n))),(900, .row 1 ((eI n (cnt l) (db n l) l k).1.map aG)),(901, .row 1 ((eI n (cnt l) (db n l) l k).2.map aG))]) (λ k=>l.length-k) 0 ?_ ?_ ?_
   ·exact uF _
   ·exact kN aa []
   ·intro k I;rcases uD k l.length with K|hge
    ·obtain⟨a,M⟩:=ak K;have H:=castA_get M;have A:=hi a (uA M);have S:=F k I;have Z:eI n (cnt l) (db n l) l (k+1)=lJ n (cnt l) (db n l) k a (eI n (cnt l) (db n l) l k):=by rw[eI,M]
     revert S Z;generalize eI n (cnt l) (db n l) l k=st;obtain⟨U,Dk⟩:=st;intro S Z;dsimp only at S|-;have Q:=S.len;have hDl:Dk.length<=k:=Go.Cy.nd_le (S.asc.imp λ h=>Dq h) S.below;by_cases c:a.1=a.2
     ·rw[lJ,if_pos c]at Z;have O:(a.1:Int)=a.2:=xA;refine ac kO (av H Y @O) aa ?_;refine⟨k+1,?_,kN (ae Z) [],?_⟩
      ·omega
      ·omega
     ·have O:¬(a.1:Int)=a.2:=xA;rw[lJ,if_neg c]at Z;have hv1:a.1<U.length:=xA;have hv2:a.2<U.length:=xA;obtain⟨f1,R⟩:=ak hv1;obtain⟨f2,L⟩:=ak hv2;have hx1:=AA (cnt l) (.ref 900 1 0 n n);have hx2:=AA (cnt l) (.ref 77 1 0 n n);have hs1:=I4 (.int n) (cnt l) (.ref 900 1 0 n n) (.ref 77 1 0 n n);have hs2:=I4 (.int n) (cnt l) (.ref 77 1 0 n n) (.ref 900 1 0 n n);have s:(U.map aG).length=n:=by rw[uC,Q]
      have hmt:(U.map aG).take n=U.map aG:=uE xA;have E:atN U a.1=f1:=by rw[atN,R];rfl
      have C:atN U a.2=f2:=by rw[atN,L];rfl
      have hb1:=gS (E▸S.lt a.1) (Go.Cy.pow_le8 G);have hb2:=gS (C▸S.lt a.2) (Go.Cy.pow_le8 G);have J:=F0 (u:=a.2) R;have hq2:=F0 (u:=a.1) L;obtain⟨p1,hp1⟩:∃p,p=2^a.1:=⟨_,rfl⟩;obtain⟨p2,hp2⟩:∃p,p=2^a.2:=⟨_,rfl⟩;have hb3:p1<256:=by rw[hp1];exact Bk (n:=8) xC xA
      have hb4:p2<256:=by rw[hp2];exact Bk (n:=8) xC xA
      have e1:=uo a.1 xA;have e2:=uo a.2 xA;rw[<-hp1]at e1 hq2;rw[<-hp2]at e2 J;have o1:=CT (a:=f1) (b:=p2) xA xA;have o2:=CT (a:=f2) (b:=p1) xA xA;have z:=Fb n (cnt l) (dE U a.1 a.2) G T (by rw[dE,yJ,Q]) (Go.Cy.orAt_lt hv1 A.2 S.lt);by_cases V:jg n (cnt l) (dE U a.1 a.2)=db n l
      ·rw[if_pos V]at Z;have N:((jg n (cnt l) (dE U a.1 a.2):Nat):Int)=db n l:=by rw[V]
       refine ac kO (bj H Y @O hx1 hx2 hs1 @sJ (bj s hmt @yH.{0} Q R e2 o1 (aQ J @AB @qM.{0,0} @N @aA))) (ae (dM [(1000,26),(1001,77)] z)) ?_;refine⟨k+1,?_,eL [(900,77),(901,106)] _ _ (by refine⟨?_,?_⟩<;>(repeat' first|exact fmn|refine fmc ⟨(by first|rfl|(simp(disch:=omega) only[go_sem,simprocAttr,inL,Z,uH,yO,uO,uS,uY,Ob.ren,AC,uS];first|done|omega|(congr 1;done))),?_⟩);done),?_⟩
       ·omega
       ·omega
      ·rw[if_neg V]at Z;have N:¬((jg n (cnt l) (dE U a.1 a.2):Nat):Int)=db n l:=xA;refine ac kO (bj H Y @O hx1 hx2 hs1 hs2 (bj @sJ s hmt @yH.{0} Q R L (bj e1 e2 o1 o2 J hq2 @AB (av @AC @qM.{0,0} @N)))) (ae (dM [(1000,26),(1001,77)] z)) ?_;refine⟨k+1,?_,eL [] _ _ (by refine⟨?_,?_⟩<;>(repeat' first|exact fmn|refine fmc ⟨(by first|rfl|(simp(disch:=omega) only[go_sem,simprocAttr,inL,Z,Ob.ren,AC,uS];first|done|omega|(congr 1;done))),?_⟩);done),?_⟩
       ·omega
       ·omega
    ·have I:k=l.length:=xA;subst I;refine ac kO aa aa ?_;exact⟨_,rfl,bZ (o:=901) rfl rfl xB (by rw[uE xB];rfl),ap rfl,trivial⟩
end Go.Proofs.YtjjbhjnpeenbkaaGreatDoor.Cyc
namespace Go.Proofs.YtjjbhjnpeenbkaaGreatDoor.Cyc
open Go Go.PS Go.Proofs
open Go.Hp (Ik upN jl)
set_option maxRecDepth 100000
attribute [local irreducible] ao wpG ah ax
end Go.Proofs.YtjjbhjnpeenbkaaGreatDoor.Cyc
namespace Go.Proofs.YtjjbhjnpeenbkaaGreatDoor.Cyc
open Go Go.PS Go.Proofs
open Go.Cy (NA InN)
set_option maxRecDepth 100000
attribute [local irreducible] ao wpG ah ax
end Go.Proofs.YtjjbhjnpeenbkaaGreatDoor.Cyc
namespace Go.Proofs.YtjjbhjnpeenbkaaGreatDoor.Cyc
open Go Go.PS Go.Proofs
open Go.Cy (NA InN Acy inC hds Kahn KahnI)
open Go.Hp (jl)
set_option maxRecDepth 100000
attribute [local irreducible] ao wpG ah ax
noncomputable def vj (l:List NA):Bool:= @decide (Acy l) (Classical.propDecidable _)
theorem JB {l:List NA}:vj l=true↔Acy l:=by rw[vj];exact @decide_eq_true_iff _ (Classical.propDecidable _)
def cz (n:Nat)(f:Nat->Nat):List D:=(List.range n).map λ w=>aG (f w)
theorem iH (n:Nat)(f:Nat->Nat):(cz n f).length=n:=by simp[cz]
theorem l0 {n:Nat}(f:Nat->Nat){i:Nat}(h:i<n):(cz n f)[i]? =some (aG (f i)):=by
 rw[cz,uJ,yZ h];rfl
theorem Hi {n:Nat}{f f':Nat->Nat}{i x:Nat}(h:∀w,w<n->f' w=if w=i then x else f w):(cz n f).set i (aG x)=cz n f':=by
 refine yX λ k=>?_
 rw[qF,iH];rcases uD k n with Z|Z
 ·rw[l0 f' Z,h k Z];by_cases c:i=k
  ·subst c;simp[Z]
  ·rw[if_neg c,if_neg (Ne.symm c),l0 f Z]
 ·rw[uL (by rw[iH];exact Z:(cz n f').length<=k),uL (by rw[iH];exact Z:(cz n f).length<=k)];split
  ·rw[if_neg xA]
  ·rfl
end Go.Proofs.YtjjbhjnpeenbkaaGreatDoor.Cyc
namespace Go.Proofs.YtjjbhjnpeenbkaaGreatDoor.Cyc
open Go Go.PS Go.Proofs
open Go.Cy (NA InN Acy j1 Brk bN Asc)
set_option maxRecDepth 100000
attribute [local irreducible] ao wpG ah ax
abbrev mh (s:List Nat):List Int:=s.map λ x:Nat=>(x:Int)
theorem Kx {s:List Nat}{i x:Nat}(h:s[i]? =some x):(mh s)[i]? =some (x:Int):=by simp[h]
theorem MQ (s:List Nat):aj (mh s)=br s:=by simp[aj,br,Function.comp]
theorem L7 (l:List NA)(t:List Nat):k9 (castA l) (mh t)=castA (bN l t):=by
 refine yX λ k=>?_
 rcases uD k l.length with h|h
 ·obtain⟨a,Z⟩:=ak h;rw[rt (castA_get Z),castA_get (Go.Cy.flipN_get Z)];have:kd (mh t) (k:Int)=decide (k∈t):=by
   rw[qW];simp only[kd,gW,uG,uR];constructor
   ·rintro⟨x,⟨y,X,rfl⟩,V⟩;have:y=k:=xA;exact this▸X
   ·intro Y;exact⟨_,⟨k,Y,rfl⟩,rfl⟩
  rw[this];by_cases c:k∈t
  ·simp[c,uy]
  ·simp[c]
 ·rw[uL (by rw[oz,castA_len];exact h),uL (by rw[castA_len,Go.Cy.flipN_len];exact h)]
theorem Nu {l:List NA}{t:List Nat}(h:j1 l t):mz (mh t) l.length=0:=by
 have T:∀k,k<=t.length->iu (mW (mh t) l.length) k=0:=by
  intro k
  induction k with
  |zero=>intro _;rfl
  |succ k N=>
   intro L;refine Ec (N xA) ?_;obtain⟨x,U⟩:=ak (show k<t.length by omega);obtain⟨a,R,K⟩:=h.2 x (uA U);have Q:=(uB.1 R).1;simp only[mW,Kx U];rw[if_neg xA,if_neg];simp only[kd,gW,uG,not_exists,not_and];rintro y S rfl;rw[mh,<-Ai]at S;obtain⟨z,O,M⟩:=uR.1 S;obtain⟨i,X⟩:=qC.1 O;rw[qS]at X;split at X
   ·rename_i V;have Z:=uB.1 X;have Y:=uB.1 U;have:=(jB.1 h.1) i k Z.1 Y.1 V;rw[Z.2,Y.2]at this;omega
   ·cases X
 have:=T t.length (uI _);rw[mz,uC];exact this
end Go.Proofs.YtjjbhjnpeenbkaaGreatDoor.Cyc
namespace Go.Proofs.YtjjbhjnpeenbkaaGreatDoor.Cyc
open Go Go.PS Go.Proofs
open Go.Cy (NA InN cnt lJ eI db cq bN j1 Asc)
set_option maxRecDepth 100000
attribute [local irreducible] ao wpG ah ax
theorem DH (n:Nat)(c:Nat->Nat->Nat)(z:Nat)(l:List NA):∀k,k<=l.length->Asc (eI n c z l k).2/\∀i,i∈(eI n c z l k).2->i<k/\∃a,l[i]? =some a/\a.1≠a.2:=by
 intro k
 induction k with
 |zero=>intro _;exact⟨List.Pairwise.nil,λ i h=>by cases h⟩
 |succ k S=>
  intro R;obtain⟨Z,Y⟩:=S xA;obtain⟨a,V⟩:=ak (show k<l.length by omega);rw[eI,V];dsimp only;rw[lJ];have X:∀i,i∈(eI n c z l k).2->i<k+1/\∃a,l[i]? =some a/\a.1≠a.2:=λ i h=>⟨by have:=(Y i h).1;omega,(Y i h).2⟩
  by_cases e:a.1=a.2
  ·rw[if_pos e];exact⟨Z,X⟩
  ·rw[if_neg e];split
   ·refine⟨?_,λ i h=>?_⟩
    ·refine gP.2 ⟨Z,zQ _ _,λ x U y T=>?_⟩;rw[uX]at T;have:=(Y x U).1;omega
    ·rcases yP.1 h with h|h
     ·exact X i h
     ·rw[uX]at h;subst h;exact⟨xA,a,V,e⟩
   ·exact⟨Z,X⟩
theorem Fa (n:Nat)(l:List NA):j1 l (cq n l):=
 ⟨(DH n (cnt l) (db n l) l l.length (uI _)).1,λ i h=>((DH n (cnt l) (db n l) l l.length (uI _)).2 i h).2⟩
theorem L3 {n:Nat}{l:List NA}{t:List Nat}(h:gOk ((n:Int),castA l)=true)(X:j1 l t):ah Tryz.prog 158 [gD ((n:Int),castA l),br t] (.tup [gD ((n:Int),castA (bN l t)), .int 0]):=by
 have Z:=Jd ((n:Int),castA l) (mh t);have eF:lO ((n:Int),castA l) (mh t)=(((n:Int),castA (bN l t)),0):=by
  have Y:=Nu X;rw[lO,if_pos h];simp only[castA_len,Y,if_true,L7]
 rw[eF,MQ]at Z;exact Z
theorem Break8 (n:Nat)(l:List NA)(h:gOk ((n:Int),castA l)=true)(T:InN n l)(Z:l.length<=256)(Y:n<=8):ah Tryz.prog 94 [gD ((n:Int),castA l)] (.tup [br (cq n l),gD ((n:Int),castA (bN l (cq n l)))]):=by
 have V:=L3 h (Fa n l);have S:=Je n l h T Z Y;refine kE Tryz.func94 ?_;intro U B X R;refine ac kO aa (ai S V) ?_;refine⟨_,rfl,?_,⟨_,_,_,_,rfl,?_⟩,trivial⟩
 ·rfl
 ·simp(disch:=omega) only[go_sem,simprocAttr]
end Go.Proofs.YtjjbhjnpeenbkaaGreatDoor.Cyc
namespace Go.Proofs.YtjjbhjnpeenbkaaGreatDoor.Cyc
open Go Go.PS Go.Proofs
open Go.Cy (NA InN eM fU fT iA)
set_option maxRecDepth 100000
attribute [local irreducible] ao wpG ah ax
def lh (n:Nat)(S:List Nat):List D:=(List.range n).map λ w=> .bool (decide (w∈S))
theorem mu (n:Nat)(S:List Nat):(lh n S).length=n:=by simp[lh]
theorem wG {n:Nat}(S:List Nat){i:Nat}(h:i<n):(lh n S)[i]? =some (.bool (decide (i∈S))):=by
 rw[lh,uJ,yZ h];rfl
theorem Li (l:List NA)(S:List Nat)(a:NA)(v:Nat):fU (l++[a]) S v=fU l S v+(eM S a&&decide (a.1=v)).toNat:=by
 simp only[fU,gO,uH,kK,kV];cases eM S a&&decide (a.1=v)<;>rfl
theorem Lg (l:List NA)(S:List Nat)(a:NA)(v:Nat):fT (l++[a]) S v=fT l S v+(eM S a&&decide (a.2=v)).toNat:=by
 simp only[fT,gO,uH,kK,kV];cases eM S a&&decide (a.2=v)<;>rfl
theorem Lh (l:List NA)(S:List Nat)(v:Nat):fU l S v<=l.length:=jA _ _
theorem Lf (l:List NA)(S:List Nat)(v:Nat):fT l S v<=l.length:=jA _ _
theorem Lj (n:Nat)(l:List NA)(S:List Nat)(v:Nat)(q:InN n l)(hll:l.length<=256):
  ah Tryz.prog 238 [gD ((n:Int),castA l), .sl (lh n S), .int v] (.tup [.int (fU l S v), .int (fT l S v)]):=by
 have h:=castA_len l;refine kE Tryz.func238 ?_;intro z B X w0;refine ac kO (ae h) aa ?_;refine aq (λ(k:Nat)=>k<=l.length) (λ k=>[(1, .d (.sl (lh n S))),(2, .int v),(3, .ptr 3 0 0 0),(6, .int (fU (l.take k) S v)),(7, .int (fT (l.take k) S v)),(11, .d (aw (castA l))),(12, .int l.length),(13, .int k)]) (λ k=>[(3, .cells [.int n, .d (aw (castA l))])]) (λ k=>l.length-k) 0 ?_ ?_ ?_
 ·exact uF _
 ·exact kN aa []
 ·intro k E;rcases uD k l.length with G|s
  ·obtain⟨a,J⟩:=ak G;have O:=castA_get J;have L:=q a (uA J);have T:=wG S L.1;have Q:=wG S L.2;have V:fU (l.take (k+1)) S v=fU (l.take k) S v+(eM S a&&decide (a.1=v)).toNat:=by rw[aM J];exact Li _ _ _ _
   have Y:fT (l.take (k+1)) S v=fT (l.take k) S v+(eM S a&&decide (a.2=v)).toNat:=by rw[aM J];exact Lg _ _ _ _
   have b:=Lh (l.take k) S v;have C:=Lf (l.take k) S v;rw[yA]at b C;by_cases F:a.1=a.2
   ·have e:eM S a=false:=by simp[eM,F]
    rw[e]at V Y;have Z:((a.1:Nat):Int)=(a.2:Nat):=xA;refine ac kO (av O h @Z) aa ?_;refine⟨k+1,?_,kN (aE V Y @Ao @Ar) [],?_⟩
    ·omega
    ·omega
   ·have Z:¬((a.1:Nat):Int)=(a.2:Nat):=xA;by_cases N:a.1∈S
    ·by_cases K:a.2∈S
     ·have e:eM S a=true:=by simp[eM,F,N,K]
      rw[uZ N]at T;rw[uZ K]at Q;rw[e]at V Y;by_cases A:v=a.1
      ·subst A;have R:¬((a.2:Nat):Int)=(a.1:Nat):=xA;have H:decide (a.2=a.1)=false:=by simp;omega
       rw[H]at Y;rw[uZ rfl]at V;refine ac kO (bV O h @Z T Q @mu @R) aa ?_;refine⟨k+1,?_,kN (bq V Y @zY @Bool.and_self @Ar @Bool.toNat_true) [],?_⟩
       ·omega
       ·omega
      ·by_cases H:v=a.2
       ·subst H;have U:decide (a.1=a.2)=false:=by simp;omega
        rw[U]at V;rw[uZ rfl]at Y;refine ac kO (bq O h @Z T Q @mu) aa ?_;refine⟨k+1,?_,kN (bq V Y @zY @Bool.and_self @Ar @Bool.toNat_true) [],?_⟩
        ·omega
        ·omega
       ·have I:¬((a.1:Nat):Int)=(v:Nat):=xA;have R:¬((a.2:Nat):Int)=(v:Nat):=xA;have U:decide (a.1=v)=false:=by simp;omega
        have M:decide (a.2=v)=false:=by simp;omega
        rw[U]at V;rw[M]at Y;refine ac kO (bj O h @Z T Q @mu @I @R) aa ?_;refine⟨k+1,?_,kN (aE V Y @zY @Ar) [],?_⟩
        ·omega
        ·omega
     ·have e:eM S a=false:=by simp[eM,K]
      rw[uZ N]at T;rw[uW K]at Q;rw[e]at V Y;refine ac kO (bq O h @Z T Q @mu) aa ?_;refine⟨k+1,?_,kN (aE V Y @Ao @Ar) [],?_⟩
      ·omega
      ·omega
    ·have e:eM S a=false:=by simp[eM,N]
     rw[uW N]at T;rw[e]at V Y;refine ac kO (aQ O h @Z T @mu) aa ?_;refine⟨k+1,?_,kN (aE V Y @Ao @Ar) [],?_⟩
     ·omega
     ·omega
  ·have E:k=l.length:=xA;subst E;rw[yE];refine ac kO (ae h) aa ?_;exact⟨_,rfl,rfl,rfl,trivial⟩
theorem EK (n:Nat)(S:List Nat):(lh n S).take n=lh n S:=uE (by rw[mu];exact uI n)
def OG :Option Nat->Int
 |some v=>v
 |none=>-1
theorem Gg (S:List Nat)(p:Nat->Bool){k:Nat}(h:iA k S p=none)(Z:(decide (k∈S)&&p k)=false):iA (k+1) S p=none:=by
 rw[iA,qE,List.find?_append];rw[iA]at h;rw[h];simp only[List.find?_cons,Z];rfl
theorem Pc (S:List Nat)(p:Nat->Bool){n k:Nat}(X:k<n)(h:iA k S p=none)(Y:(decide (k∈S)&&p k)=true):iA n S p=some k:=by
 have e:List.range n=List.range k++k::(List.range (n-(k+1))).map (k+1+·):=by
  have Z:List.range n=List.range (k+1)++(List.range (n-(k+1))).map (k+1+·):=by
   rw[<-List.range_add];congr 1;omega
  rw[Z,qE,qG];rfl
 rw[iA]at h;rw[iA,e,List.find?_append,h];simp only[List.find?_cons,Y];rfl
theorem rr (n:Nat)(l:List NA)(S:List Nat)(f:Nat)(p:Nat->Nat->Bool)(L:InN n l)(K:n<=64)(R:l.length<=256)(N:∀o b:Nat,ah Tryz.prog f [.int o, .int b] (.bool (p o b))):
  ax Tryz.prog 237 [.d (.fn f []), .ptr 1000 0 0 0, .ptr 1001 0 0 0] [(1000, .cells [.int n, .d (aw (castA l))]),(1001, .cells [.ref 1002 1 0 n n]),(1002, .row 1 (lh n S))] (.int (OG (iA n S λ v=>p (fU l S v) (fT l S v)))) [(1000, .cells [.int n, .d (aw (castA l))]),(1001, .cells [.ref 1002 1 0 n n]),(1002, .row 1 (lh n S))]:=by
 refine kM Tryz.func237 ?_;intro B X J;refine ac kO aa aa ?_;refine aq (λ(k:Nat)=>k<=n/\iA k S (λ v=>p (fU l S v) (fT l S v))=none) (λ k=>[(0, .d (.fn f [])),(1, .ptr 1000 0 0 0),(2, .ptr 1001 0 0 0),(7, .int n),(8, .int k)]) (λ k=>[(1000, .cells [.int n, .d (aw (castA l))]),(1001, .cells [.ref 1002 1 0 n n]),(1002, .row 1 (lh n S))]) (λ k=>n-k) 0 ?_ ?_ ?_
 ·exact⟨uF _,rfl⟩
 ·exact kN aa []
 ·rintro k ⟨O,h⟩;rcases uD k n with Y|M
  ·have Z:=wG S Y;by_cases V:k∈S
   ·rw[uZ V]at Z;have Q:=Lj n l S k L R;have T:=N (fU l S k) (fT l S k);rcases U:p (fU l S k) (fT l S k)with _|_
    ·rw[U]at T;refine ac kO (av Z @mu @EK) (ai Q T) ?_;refine⟨k+1,?_,kN aa [],?_⟩
     ·exact⟨xA,Gg S _ h (by rw[U,zY])⟩
     ·omega
    ·rw[U]at T;rw[Pc S _ Y h (by rw[U,uZ V];rfl)];refine ac kO (av Z @mu @EK) (ai Q T) ?_;exact rfl
   ·rw[uW V]at Z;refine ac kO (ai Z @mu) aa ?_;refine⟨k+1,?_,kN aa [],?_⟩
    ·exact⟨xA,Gg S _ h (by rw[uW V];rfl)⟩
    ·omega
  ·have O:n=k:=xA;subst O;rw[h];refine ac kO aa aa ?_;exact rfl
end Go.Proofs.YtjjbhjnpeenbkaaGreatDoor.Cyc
namespace Go.Proofs.YtjjbhjnpeenbkaaGreatDoor.Cyc
open Go Go.PS Go.Proofs
open Go.Cy (NA InN bwd mf bJ cq bN j1)
open Go.Bd (Part)
set_option maxRecDepth 100000
attribute [local irreducible] ao wpG ah ax
def plF (R:List Nat)(k w:Nat):Nat:=if R.idxOf w<k then R.idxOf w else 0
theorem Gm (n:Nat)(R:List Nat):List.replicate n (D.int 0)=cz n (plF R 0):=by
 refine yX λ k=>?_
 rw[gA];rcases uD k n with h|h
 ·rw[l0 _ h,if_pos h];rfl
 ·rw[uL (by rw[iH];exact h:(cz n _).length<=k),if_neg xA]
theorem Mt {R:List Nat}(T:R.Nodup){k v:Nat}(h:R[k]? =some v):R.idxOf v=k:=by
 obtain⟨Y,X⟩:=uB.1 h;have U:=uA h;have Z:=jD U;have V:=Ab Z;exact(List.getElem_inj (h₀:=Z) (h₁:=Y) T).1 (V.trans X.symm)
theorem Gn {R:List Nat}(S:R.Nodup){k v:Nat}(h:R[k]? =some v)(w:Nat):plF R (k+1) w=if w=v then k else plF R k w:=by
 have T:=Mt S h;by_cases c:w=v
 ·subst c;rw[if_pos rfl,plF,T,if_pos xA]
 ·rw[if_neg c,plF,plF];by_cases Z:R.idxOf w<k
  ·rw[if_pos Z,if_pos xA]
  ·rw[if_neg Z];split
   ·have V:R.idxOf w=k:=xA;obtain⟨Q,X⟩:=uB.1 h;exfalso;apply c;have U:R.idxOf w<R.length:=xA;have Y:=Ab U;simp only[V]at Y;rw[<-Y,X]
   ·rfl
theorem tY {n:Nat}{R:List Nat}(h:Part n 0 R){w:Nat}(Z:w<n):plF R R.length w=R.idxOf w:=by
 rw[plF,if_pos (jD (Go.Cy.Part.mem h Z))]
def iZ (M:List Nat)(l:List NA)(k:Nat):List Nat:=(List.range k).filter (mf M l)
theorem B4 (M:List Nat){l:List NA}{k:Nat}{a:NA}(h:l[k]? =some a):iZ M l (k+1)=if bwd M a then iZ M l k++[k]else iZ M l k:=by
 rw[iZ,qE,gO,kK,mf,h];cases Z:bwd M a<;>simp[iZ,Z]
theorem B3 (M:List Nat)(l:List NA)(k:Nat):(iZ M l k).length<=k:=gY (jA _ _) xB
end Go.Proofs.YtjjbhjnpeenbkaaGreatDoor.Cyc
namespace Go.Proofs.YtjjbhjnpeenbkaaGreatDoor.Cyc
open Go Go.PS Go.Proofs
open Go.Cy (NA InN bN j1 Acy Src lB qx Asc)
set_option maxRecDepth 100000
attribute [local irreducible] ao wpG ah ax
theorem GS (g:Gr):ah Tryz.prog 86 [gD g] (.bool (gOk g)):=by
 obtain⟨n,l⟩:=g;refine kE Tryz.func86 ?_;intro Y B X N;have R:=cO 0 1 Y rfl rfl;rw[uC]at R;refine kw kO aa aa ?_
 repeat' first|exact True.intro|refine Bn.mk ?_ ?_|intro T
 all_goals try (refine ay ?_;simp[gOk];omega)
 refine aq (λ(k:Nat)=>k<=l.length/\∀(j:Nat) y,j<k->l[j]? =some y->(!j3 n y)=false) (λ k=>[(1, .ptr 1 0 0 0),(3, .int k)]) (λ k=>[(1, .cells [.int n, .d (aw l)])]) (λ k=>l.length-k) 0 ?_ ?_ ?_
 ·exact⟨uF _,λ j y h=>xA⟩
 ·exact kN aa []
 ·rintro k ⟨O,Z⟩;rcases uD k l.length with V|S
  ·obtain⟨p,U⟩:=ak V;refine kw kO (ae U) aa ?_
   repeat' first|exact True.intro|refine Bn.mk ?_ ?_|intro T
   all_goals try
    refine ay ?_;rw[gOk,dk U (by simp[j3];omega)];simp
   ·refine⟨k+1,?_,eL [] _ _ (by refine⟨?_,?_⟩<;>(repeat' first|exact fmn|refine fmc ⟨(by first|rfl|(simp(disch:=omega) only[go_sem,simprocAttr,inL];first|done|omega|(congr 1;done))),?_⟩);done),?_⟩
    ·exact⟨xA,b9 Z U (by simp[j3];omega)⟩
    ·omega
  ·refine ac kO aa aa ?_;refine ay ?_;rw[gOk,d6 (λ j y Q=>Z j y xA)];simp;omega
theorem L6 {l:List NA}{t:List Nat}{k x:Nat}{a:NA}(U:t[k]? =some x)(V:l[x]? =some a):bN l (t.take (k+1))=(bN l (t.take k)).set x (a.2,a.1):=by
 refine yX λ u=>?_
 rw[qF,Go.Cy.flipN_len];rcases uD u l.length with Z|Z
 ·obtain⟨b,X⟩:=ak Z;rw[Go.Cy.flipN_get X,Go.Cy.flipN_get X,aM U];by_cases c:x=u
  ·subst c;rw[V]at X;cases X;simp[Z]
  ·rw[if_neg c];have:(u∈t.take k++[x])↔u∈t.take k:=by simp[Ne.symm c]
   by_cases Y:u∈t.take k
   ·rw[if_pos Y,if_pos (this.2 Y)]
   ·rw[if_neg Y,if_neg (λ h=>Y (this.1 h))]
 ·rw[uL (by rw[Go.Cy.flipN_len];exact Z),uL (by rw[Go.Cy.flipN_len];exact Z)];split
  ·rw[if_neg xA]
  ·rfl
theorem L5 {l:List NA}{t:List Nat}{k x:Nat}{a:NA}(T:Asc t)(S:t[k]? =some x)(V:l[x]? =some a):(bN l (t.take k))[x]? =some a:=by
 rw[Go.Cy.flipN_get V,if_neg];intro U;obtain⟨i,h⟩:=qC.1 U;rw[qS]at h;split at h
 ·rename_i Z;have Y:=uB.1 h;have X:=uB.1 S;have:=(jB.1 T) i k Y.1 X.1 Z;rw[Y.2,X.2]at this;omega
 ·cases h
theorem Kw (l:List NA)(x:Nat)(a:NA):(castA l).set x ((a.1:Int),(a.2:Int))=castA (l.set x a):=by
 rw[castA,castA,yW]
theorem QT (n:Nat)(l:List NA)(t:List Nat)(L:l.length<=256)(O:j1 l t):ah Tryz.prog 89 [gD ((n:Int),castA l),br t] (gD ((n:Int),castA (bN l t))):=by
 have U:=castA_len l;refine kE Tryz.func89 ?_;intro V B X H;have R:=bI 1 V rfl;rw[uC]at R;refine ac kO (ae U) aa ?_;refine aq (λ(k:Nat)=>k<=t.length) (λ k=>[(1, .d (br t)),(2, .ptr 2 0 0 0),(4, .ptr 4 0 0 0),(5, .ptr 5 0 0 0),(6, .int k)]) (λ k=>[(2, .cells [.int n, .d (aw (castA l))]),(4, .cells [.int 0, .nilS]),(5, .cells [.int n, .ref 900 2 0 l.length l.length]),(900, .row 2 ((castA (bN l (t.take k))).map bo))]) (λ k=>t.length-k) 0 ?_ ?_ ?_
 ·exact uF _
 ·exact kN (ai @yQ.{0} @Go.Cy.flipN_nil) [(900,15)]
 ·intro k Q;rcases uD k t.length with T|M
  ·obtain⟨x,Z⟩:=ak T;obtain⟨a,Y,K⟩:=O.2 x (uA Z);have I:=(uB.1 Y).1;have N:=castA_get (L5 O.1 Z Y);have h:(castA (bN l (t.take k))).length=l.length:=by rw[castA_len,Go.Cy.flipN_len]
   have J:(castA (bN l (t.take k))).set x ((a.2:Int),(a.1:Int))=castA (bN l (t.take (k+1))):=by
    rw[L6 Z Y];exact Kw _ x (a.2,a.1)
   have S:((castA (bN l (t.take k))).map bo).set x (.ag [.int (a.2:Nat), .int (a.1:Nat)])=(castA (bN l (t.take (k+1)))).map bo:=by
    rw[<-J,yW]
   refine ac kO (aE Z N h S) aa ?_;refine⟨k+1,?_,kN aa [],?_⟩
   ·omega
   ·omega
  ·have Q:k=t.length:=xA;subst Q;have h:(castA (bN l t)).length=l.length:=by rw[castA_len,Go.Cy.flipN_len]
   refine ac kO aa aa ?_;refine⟨_,_,_,_,rfl,?_⟩;simp(disch:=omega) only[go_sem,simprocAttr];simp[toD,gD,aw,yE,h,uE]
theorem H5 :∀{a b:List Nat},a.Nodup->(∀x,x∈a->x∈b)->a.length<=b.length
 |[],b,_,_=>xB
 |x::a,b,V,Z=>by
  have h:=qI.1 V;have Y:=Z x xB;have:=H5 (b:=b.erase x) h.2 λ y X=>(Ad (λ e=>h.1 (by rw[<-e];exact X))).2 (Z y (uP _ X))
  rw[kU Y]at this;have:=zU Y;simp;omega
structure Gone (n:Nat)(l:List NA)(G:List Nat):Prop where
 peel:lB l G
 nd:G.Nodup
 lt:∀v,v∈G->v<n
theorem Gone.cons {n:Nat}{l:List NA}{G:List Nat}(h:Gone n l G){v:Nat}(V:v<n)(Y:v∉G)(X:Src l G v):Gone n l (v::G):=
 ⟨h.peel.cons Y X,qI.2 ⟨Y,h.nd⟩,λ u Z=>by
  rcases yI.1 Z with rfl|Z
  ·exact V
  ·exact h.lt u Z⟩
theorem Gone.fin {n:Nat}{l:List NA}{G:List Nat}(h:Gone n l G)(Y:InN n l)(Z:n<=G.length\/qx n l G):decide (n-G.length=0)=vj l:=by
 rw[qW,decide_eq_true_iff,JB];constructor
 ·intro U;exact h.peel.all Y (Go.Cy.nd_all h.nd h.lt xA)
 ·intro X;rcases Z with Z|Z
  ·omega
  ·have:=H5 (b:=G) (zI (n:=n)) λ v V=>Go.Cy.stuck_all Y X Z v (yD.1 V)
   simp at this;omega
end Go.Proofs.YtjjbhjnpeenbkaaGreatDoor.Cyc
