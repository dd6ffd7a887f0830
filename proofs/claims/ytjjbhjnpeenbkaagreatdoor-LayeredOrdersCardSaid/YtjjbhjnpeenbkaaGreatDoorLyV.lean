/- Order agrees with the reference. -/
import Derived.Test.YtjjbhjnpeenbkaaGreatDoorLyM
import Derived.Test.YtjjbhjnpeenbkaaGreatDoorLyA
import Derived.Test.YtjjbhjnpeenbkaaGreatDoorOrF
import Derived.Test.YtjjbhjnpeenbkaaGreatDoorAlA
set_option linter.unusedSimpArgs false
set_option linter.unusedVariables false
set_option maxHeartbeats 16000000
namespace Go.Proofs.YtjjbhjnpeenbkaaGreatDoor.Gr
open Go Go.PS Go.Proofs Go.Proofs.YtjjbhjnpeenbkaaGreatDoor
open Go.Cy (NA InN cq bN)
set_option maxRecDepth 100000
attribute [local irreducible] ao wpG ah ax
theorem GK (o:Opt):ah Tryz.prog 81 [cv o] (.bool (okO o)):=by
 rcases Y:okO o with _|_
 ·have h:¬((0<=o.md/\o.md<=4)/\(0<=o.nsep/\o.nsep<=1048576)/\(0<=o.rsep/\o.rsep<=1048576)/\(0<=o.mg/\o.mg<=1048576)/\0<=o.rd/\o.rd<=100):=λ h=>by
   have:okO o=true:=by simp only[okO,lG,uN,uG];omega
   rw[Y]at this;cases this
  refine kE Tryz.func81 ?_;intro Z B X L;refine kw kO aa aa ?_
  repeat' first|exact True.intro|refine Bn.mk ?_ ?_|intro K
  all_goals first|exact ay rfl|(refine ay ?_;rw[uW xA])|(exfalso;omega)
 ·simp only[okO,lG,uN,uG]at Y;obtain⟨⟨V,U⟩,⟨b,T⟩,⟨S,R⟩,⟨Q,O⟩,N,M⟩:=Y;refine kE Tryz.func81 ?_;intro Z B X L;refine ac kO (bj V U b T S R Q (av O N M)) aa ?_;exact ay rfl
theorem FN {g:Gph}(X:cu g):∃p,Sx.PotB (cL g).2 (Sx.zeros (cL g).2) p:=by
 have Q:=lE g;have Z:=rO X.ok;obtain⟨M,R,L⟩:=Go.Cy.least_back (l:=naF g) X.n8 Z (by rw[naF,uC];have:=(jx X.ok).1;omega);have T:=Go.Cy.back_brk R Z;rw[L]at T;obtain⟨_,r,U⟩:=T;have U:∀a,a∈cp g->a.1≠a.2->r a.1<r a.2:=U;refine⟨λ v=>64*(r v:Int),λ k b N=>⟨?_,λ h=>by rw[Sx.at0_zeros]at h;omega⟩⟩;have Y:=uA N;rw[cL]at Y;dsimp only at Y;rw[de,uE (uI _)]at Y;obtain⟨i,O,rfl⟩:=uR.1 Y;obtain⟨K,q⟩:=oC O;obtain⟨a,V⟩:=ak K;obtain⟨e,S⟩:=ak (l:=g.es) (k:=i) xA;have:=ro X.ok S;rw[hO,V,uG]at q;have:=U a (uA V) q;rw[pj,V,S];simp only[uK];omega
theorem GL {g:Gph}(o:Opt)(V:Mod g)(h:ee g≠0):ah Tryz.prog 34 [a7 g,cv o] (.tup [lvD lv0, .int 0, .int (ee g)]):=by
 have Z:=Qg V h;refine kE Tryz.func34 ?_;intro Y B X U;refine ac kO (ae h) (ae Z) ?_;refine⟨_,rfl,⟨_,_,_,_,rfl,?_⟩,ap ?_,ap ?_,trivial⟩
 ·simp(disch:=omega) only[go_sem,simprocAttr];rfl
 ·rfl
 ·rfl
theorem GN {g:Gph}{o:Opt}(V:okO o=false){a b:D}(Z:ah Tryz.prog 30 [a7 g] (.tup [a,b, .int 0])):ah Tryz.prog 34 [a7 g,cv o] (.tup [lvD lv0, .int 0, .int 7]):=by
 have h:=GK o;rw[V]at h;refine kE Tryz.func34 ?_;intro Y B X U;refine ac kO aa (ai Z h) ?_;refine⟨_,rfl,⟨_,_,_,_,rfl,?_⟩,ap ?_,ap ?_,trivial⟩
 ·simp(disch:=omega) only[go_sem,simprocAttr];rfl
 ·rfl
 ·rfl
theorem GM {g:Gph}{o:Opt}(S:cu g)(z:g.es.length<=11)(K:okO o=true){r:List Int}{b:D}(U:ah Tryz.prog 30 [a7 g] (.tup [aj r,b, .int 0])):
  ah Tryz.prog 34 [a7 g,cv o] (.tup [lvD (lV g o r).1, .int (lV g o r).2.1, .int (lV g o r).2.2]):=by
 have Y:=GK o;rw[K]at Y;have T:=xZ S;have Z:ah Tryz.prog 55 [gD ((g.ns.length:Int),bP (cp g) (cp g).length),aj r] (.tup [lvD (aO (pGr g) r).1, .int (aO (pGr g) r).2]):=GH (pGr g) r;have J:=tU (g:=g);rw[lV];by_cases h:(aO (pGr g) r).2=0
 ·rw[if_pos h];obtain⟨q,G⟩:=vG h S.n8 xA;have L:=QY (aO (pGr g) r).1 o.rd q G;rw[h]at Z;generalize(aO (pGr g) r).1=c at*;generalize jj c o.rd=R at*;obtain⟨n,I,Q,N⟩:=c;obtain⟨⟨s,H,O,M⟩,E,C⟩:=R;refine kE Tryz.func34 ?_;intro V B X F;refine ac kO aa (aQ U Y T Z L) ?_;refine⟨_,rfl,⟨_,_,_,_,rfl,?_⟩,ap ?_,ap ?_,trivial⟩
  ·simp(disch:=omega) only[go_sem,simprocAttr]
  ·rfl
  ·rfl
 ·rw[if_neg h];generalize aO (pGr g) r=c at*;obtain⟨⟨n,I,Q,N⟩,A⟩:=c;dsimp only at h Z;refine kE Tryz.func34 ?_;intro V B X F;refine ac kO (ae h) (aE U Y T Z) ?_;refine⟨_,rfl,⟨_,_,_,_,rfl,?_⟩,ap ?_,ap ?_,trivial⟩
  ·simp(disch:=omega) only[go_sem,simprocAttr];rfl
  ·rfl
  ·rfl
theorem OU (g:Gph)(o:Opt)(Z:Mod g)(R:g.ns.length<=8)(U:g.es.length<=11)(S:∀e,e∈g.es->e.ln<=4):∃T n e,ah Tryz.prog 13 [a7 g,cv o] (.tup [lvD T, .int n, .int e])/\ah Tryz.prog 34 [a7 g,cv o] (.tup [lvD T, .int n, .int e]):=by
 by_cases X:ee g=0
 ·have h:cu g:=⟨Z,X,R⟩;obtain⟨r,f,O,Q⟩:=Sx.solve_best (n:=g.ns.length) (l:=(cL g).2) (nB h) (FN h);obtain⟨N,V⟩:=GP h S Q;rcases Y:okO o with _|_
  ·exact⟨_,_,_,AK Z X Y,GN Y V⟩
  ·exact⟨_,_,_,vc h U Y O,GM h U Y V⟩
 ·exact⟨_,_,_,AJ o Z X,GL o Z X⟩
theorem M1 (g:Gph)(o:Opt):ah Tryz.prog 7 [a7 g,cv o] (.bool true):=by
 have V:=wZ;have Z:=D8 g 7 9 xC xC;rcases R:lM g 7 9 with _|_<;>rw[R]at Z
 ·refine kE Tryz.func7 ?_;intro h B X S;refine ac kO aa (ai Z V) ?_;exact ay rfl
 ·obtain⟨I,H,M,L⟩:=wj R;obtain⟨Y,n,e,O,N⟩:=OU g o M xA xA L;have T:=ya Y Y;rw[show jn Y Y=true from qb.2 rfl]at T;obtain⟨G,F,K,J⟩:=Y;by_cases U:4<o.rd
  ·by_cases Q:o.rd<=100
   ·refine kE Tryz.func7 ?_;intro h B X S;refine ac kO (ai U Q) (ai Z V) ?_;exact ay rfl
   ·refine kE Tryz.func7 ?_;intro h B X S;refine ac kO (ai U Q) (aQ Z O N T V) ?_;exact ay rfl
  ·refine kE Tryz.func7 ?_;intro h B X S;refine ac kO (ae U) (aQ Z O N T V) ?_;exact ay rfl
end Go.Proofs.YtjjbhjnpeenbkaaGreatDoor.Gr
namespace Go.Proofs.YtjjbhjnpeenbkaaGreatDoor.Gr
open Go Go.PS Go.Proofs Go.Proofs.YtjjbhjnpeenbkaaGreatDoor Go.Proofs.YtjjbhjnpeenbkaaGreatDoor.Al
open Go.Cy (NA InN cq bN)
set_option maxRecDepth 100000
attribute [local irreducible] ao wpG ah ax
theorem x8 (n:Int)(h:0<=n)(Y:n<=1000000000):ah Tryz.prog 142 [.int n] (.int (n/2)):=by
 have q:n.tdiv 2=n/2:=kD h;have c:¬n<0:=xA;refine kE Tryz.func142 ?_;intro Z B X V;refine ac kO (ai c q) aa ?_;exact ap rfl
theorem Hl (x y:Int):ah Tryz.prog 196 [.ag [.int x, .int y]] (.bool (inC x&&inC y)):=by
 refine kE Tryz.func196 ?_;intro h B X Y;refine kw kO aa aa ?_
 repeat' first|exact True.intro|refine Bn.mk ?_ ?_|intro Z
 all_goals
  refine ay ?_;rw[qW];simp[inC]
  try omega
theorem Qt (b:Bx):ah Tryz.prog 143 [bxD b] (.bool (okB b)):=by
 have h:=Hl b.1 b.2.1;have Y:=Hl b.2.2.1 b.2.2.2;refine kE Tryz.func143 ?_;intro U B X S;rcases Z:(inC b.1&&inC b.2.1)with _|_<;>rw[Z]at h
 ·refine ac kO aa (ai h Y) ?_;exact ay (by rw[okB,Z];rfl)
 ·rcases V:(inC b.2.2.1&&inC b.2.2.2)with _|_<;>rw[V]at Y
  ·refine ac kO aa (ai h Y) ?_;exact ay (by rw[okB,Z,V];rfl)
  ·refine kw kO aa (ai h Y) ?_
   repeat' first|exact True.intro|refine Bn.mk ?_ ?_|intro T
   all_goals
    refine ay ?_;rw[okB,Z,V,qW];simp
    try omega
def gz (g:Gph)(y:List Int)(i:Nat):Int:=match g.ns[i]? with|some n=>at0 y i-n.w/2|none=>0
def dN (g:Gph)(y:List Int):Nat->Int
 |0=>0
 |i+1=>if i=0\/gz g y i<dN g y i then gz g y i else dN g y i
theorem wW (g:Gph)(y:List Int):∀k,0<k->(∃j,j<k/\dN g y k=gz g y j)/\∀j,j<k->dN g y k<=gz g y j:=by
 intro k
 induction k with
 |zero=>intro h;omega
 |succ k T=>
  intro _;rw[dN];rcases qO k with X|X
  ·subst X;rw[if_pos (.inl rfl)];exact⟨⟨0,xA,rfl⟩,λ j U=>by rw[show j=0 by omega];exact qR _⟩
  ·obtain⟨⟨j,U,e⟩,Y⟩:=T X;split
   ·rename_i c;refine⟨⟨k,xA,rfl⟩,λ i V=>?_⟩;by_cases Z:i=k
    ·subst Z;exact qR _
    ·have:=Y i xA;rcases c with c|c<;>omega
   ·rename_i c;refine⟨⟨j,xA,e⟩,λ i V=>?_⟩;by_cases Z:i=k
    ·subst Z;omega
    ·exact Y i xA
def shY (m:Int)(y:List Int):List Int:=y.map λ t=>t-m
theorem P0 {g:Gph}{o:Opt}{ls:List (List Int)}{K:List Arc}{cs:List (List Int)}{y:List Int}(N:PlOk g y ls)(q:g.ns.length<=1000)(hyl:g.ns.length<=y.length)(hy2:y.length<=1000)
  (z:ah Tryz.prog 195 [lvD (g.ns.length,ls,K,cs),aj (cg g), .int o.nsep] (.tup [aj y, .int 0])):
  ah Tryz.prog 141 [a7 g,cv o,lvD (g.ns.length,ls,K,cs)] (.tup [aj (shY (dN g y g.ns.length) y), .int 0]):=by
 have A:=Qo g q;have F:∀k,k<=g.ns.length->-1048576<=dN g y k/\dN g y k<=34359738368:=by
  intro k G;rcases qO k with J|J
  ·subst J;rw[dN];decide
  ·obtain⟨⟨j,hj,e⟩,_⟩:=wW g y k J;obtain⟨n,O⟩:=ak (l:=g.ns) (k:=j) xA;have:=N.nd n (uA O);have:=N.y0 j;rw[e,gz,O];dsimp only;omega
 refine kE Tryz.func141 ?_;intro s B X w0;refine ac kO aa (ai A z) ?_;refine aq (λ(k:Nat)=>k<=g.ns.length) (λ k=>[(3, .ptr 3 0 0 0),(4, .ptr 4 0 0 0),(5, .ptr 5 0 0 0),(8, .d (aj y)),(10, .int (dN g y k)),(11, .int k)]) (λ k=>[(3, .cells [.d (bi g.nm), .d (.bool g.dir), .d (.sl (g.ns.map ndD)), .d (.sl (g.es.map edD)), .d (.sl (g.cs.map clD))]),(4, .cells [.int o.md, .int o.nsep, .int o.rsep, .int o.mg, .int o.rd]),(5, .cells [.int g.ns.length, .d (am ls), .d (aw K), .d (am cs)])]) (λ k=>g.ns.length-k) 0 ?_ ?_ ?_
 ·exact uF _
 ·exact kN (ae @dN.eq_1) []
 ·intro k G;have hb:=F k G;rcases uD k g.ns.length with Z|H
  ·obtain⟨n,Y⟩:=ak Z;obtain⟨n1,n2,n3,n4⟩:=N.nd n (uA Y);have S:y[k]? =some (at0 y k):=aK xA;obtain⟨y1,y2⟩:=N.y0 k;have I:=x8 n.w xA xA;have U:dN g y (k+1)=if k=0\/at0 y k-n.w/2<dN g y k then at0 y k-n.w/2 else dN g y k:=by rw[dN,gz,Y]
   have e0:k=0->dN g y k=0:=λ h=>by subst h;rfl
   generalize dN g y k=m at*;generalize V:at0 y k-n.w/2=L at*;have b:-1048576<=L/\L<=34359738368:=xA;by_cases C:k=0
   ·subst C;rw[if_pos (.inl rfl)]at U;have M:at0 y 0-n.w/2=L:=V;refine ac kO (aE S Y V @M) (ae I) ?_;refine⟨1,?_,eL [] _ _ (by refine⟨?_,?_⟩<;>(repeat' first|exact fmn|refine fmc ⟨(by first|rfl|(simp(disch:=omega) only[go_sem,simprocAttr,inL,U];first|done|omega|(congr 1;done))),?_⟩);done),?_⟩
    ·exact Z
    ·omega
   ·have Q:¬(k:Int)=0:=xA;by_cases d:L<m
    ·rw[if_pos (.inr d)]at U;refine ac kO (aQ S Y V @Q d) (ae I) ?_;refine⟨k+1,?_,kN (ae U) [],?_⟩
     ·exact Z
     ·omega
    ·rw[if_neg xA]at U;refine ac kO (aQ S Y V @Q d) (ae I) ?_;refine⟨k+1,?_,kN (ae U) [],?_⟩
     ·exact Z
     ·omega
  ·obtain rfl:k=g.ns.length:=xA;generalize dN g y g.ns.length=m at*;refine ac kO aa aa ?_;refine aC _ (dg 13 901 1 rfl rfl) ?_;refine aq (λ(k:Nat)=>k<=y.length) (λ k=>[(8, .d (aj y)),(10, .int m),(13, .ref 901 1 0 (shY m (y.take k)).length (shY m (y.take k)).length),(14, .int k)]) (λ k=>[(901, .row 1 ((shY m (y.take k)).map D.int))]) (λ k=>y.length-k) 0 ?_ ?_ ?_
   ·exact uF _
   ·exact kN (aE @yQ.{0} @shY.eq_1 @uY.{0,0} @uU.{0}) []
   ·intro k G;have T:(shY m (y.take k)).length=k:=by rw[shY,uC,yA];omega
    rcases uD k y.length with Z|H
    ·have S:y[k]? =some (at0 y k):=aK Z;obtain⟨y1,y2⟩:=N.y0 k;have U:shY m (y.take (k+1))=shY m (y.take k)++[at0 y k-m]:=by rw[shY,shY,aM S,uO];rfl
     generalize shY m (y.take k)=R at*;have E:(R.map D.int).take k=R.map D.int:=uE (by simp[T]);refine ac kO (av S T E) aa ?_;refine⟨k+1,?_,kN (bV U @uH.{0} @yO.{0} @uO.{0,0} @uS.{0,0} @uY.{0,0} T) [(901,67)],?_⟩
     ·exact Z
     ·omega
    ·obtain rfl:k=y.length:=xA;rw[yE];refine ac kO aa aa ?_;exact⟨_,rfl,bZ (o:=901) rfl rfl xB (by rw[uE xB]),ap rfl,trivial⟩
theorem Pg {g:Gph}{y:List Int}(b:Int×Int){r:List Int}(T:∀v,v∈r->0<=v){σ:PS3}(Z:σ.2.2=true->∃v,v<g.ns.length/\σ.2.1=gz g y v):∀j,(plI g y b r σ j).2.2=true->∃v,v<g.ns.length/\(plI g y b r σ j).2.1=gz g y v:=by
 intro j
 induction j with
 |zero=>exact Z
 |succ j Y=>
  rw[plI];split
  ·rename_i v S;have R:=T v (uA S);obtain⟨v,rfl⟩:∃m:Nat,v=m:=⟨v.toNat,xA⟩;rw[plS];split
   ·rename_i c;intro _;obtain⟨n,X⟩:=ak (l:=g.ns) (k:=v) xA;have V:=xR (g:=g) (y:=y) (b:=b) X;have eL:gz g y v=at0 y v-n.w/2:=by rw[gz,X]
    dsimp only;split
    ·exact⟨v,xA,by rw[V,eL]⟩
    ·rename_i U;refine Y ?_;cases h:(plI g y b r σ j).2.2 with
     |true=>rfl
     |false=>exact absurd (.inl h) U
   ·exact Y
  ·exact Y
theorem Ph {g:Gph}{y:List Int}{ls:List (List Int)}{sep:Int}(Y:∀r,r∈ls->∀v,v∈r->0<=v):∀k,(plO g y ls sep k).2.2=true->∃v,v<g.ns.length/\(plO g y ls sep k).2.1=gz g y v:=by
 intro k
 induction k with
 |zero=>intro h;cases h
 |succ k Z=>
  rw[plO];split
  ·rename_i r X;exact Pg _ (Y r (uA X)) Z _
  ·exact Z
theorem Nl {g:Gph}{ls:List (List Int)}{L:List Arc}{cs:List (List Int)}{y:List Int}{R:Nat->Nat}{Z sep:Int}(O:VA ((g.ns.length:Int),ls,L,cs) (cg g) Z)(U:PlOk g y ls)
  (Q:∀v:Nat,v<g.ns.length->∃row,ls[R v]? =some row/\(v:Int)∈row)(Y:0<g.ns.length):dN g y g.ns.length=(plO g y ls sep ls.length).2.1:=by
 obtain⟨⟨j,K,e⟩,V⟩:=wW g y g.ns.length Y;have S:=λ v h=>v7 (sep:=sep) O U Q (v:=v) h
 obtain⟨row,N,J⟩:=Q 0 Y;have X:=(Gj (g:=g) (y:=y) (sep:=sep) O.nodup (λ r T v h=>((U.hv r T).2 v h).1) ls.length (R 0) row 0 (uB.1 N).1 N J Y).2.2;obtain⟨v,h,H⟩:=Ph (g:=g) (y:=y) (sep:=sep) (λ r T v h=>((U.hv r T).2 v h).1) ls.length X;obtain⟨n,_,M,_,_,_,I,_⟩:=S j K;have eL:gz g y j=at0 y j-n.w/2:=by rw[gz,M]
 have:=V v h;omega
theorem PU {g:Gph}{o:Opt}{ls:List (List Int)}{I:List Arc}{cs:List (List Int)}{y:List Int}{R:Nat->Nat}(hV:VA ((g.ns.length:Int),ls,I,cs) (cg g) o.nsep)(Y:PlOk g y ls)(hs:0<=o.rsep/\o.rsep<=1048576)
  (hn:g.ns.length<=1000)(hyl:g.ns.length<=y.length)(hR:∀v:Nat,v<g.ns.length->∃row,ls[R v]? =some row/\(v:Int)∈row)
  (h1:ah Tryz.prog 141 [a7 g,cv o,lvD (g.ns.length,ls,I,cs)] (.tup [aj (shY (dN g y g.ns.length) y), .int 0]))
  (h4:∀v:Nat,v<g.ns.length->ah Tryz.prog 41 [lvD (g.ns.length,ls,I,cs), .int v] (.int (R v))):
  ah Tryz.prog 84 [a7 g,cv o,lvD (g.ns.length,ls,I,cs)] (if(iz g y ls o.rsep).all okB=true then(.tup [.sl ((iz g y ls o.rsep).map bxD), .int 0])else(.tup [.sl [], .int 2])):=by
 have h2:=PQ g o ls I cs Y.low hs Y.hl hn (λ r hr=>⟨(Y.hv r hr).1,λ v J=>((Y.hv r hr).2 v J).1⟩);have s:=u1 Y.low ls (sep:=o.rsep) hs;have hhl:=oA Y.low ls;have hol:(iz g y ls o.rsep).length=g.ns.length:=by rw[iz,uC,tW]
 have hbx:∀v:Nat,v<g.ns.length->∃n row,g.ns[v]? =some n/\ls[R v]? =some row/\n.h<=hL g ls (R v)/\(-1048576<=dN g y g.ns.length/\dN g y g.ns.length<=34359738368)/\
   (iz g y ls o.rsep)[v]? =some (at0 y v-dN g y g.ns.length-n.w/2,bX g ls o.rsep (R v)+(hL g ls (R v)-n.h)/2,at0 y v-dN g y g.ns.length-n.w/2+n.w,bX g ls o.rsep (R v)+(hL g ls (R v)-n.h)/2+n.h):=λ v J=>by
  obtain⟨n,row,N,a2,a3,a4,A,a6⟩:=v7 (sep:=o.rsep) hV Y hR J;have e:=Nl (sep:=o.rsep) hV Y hR xA;obtain⟨⟨j,q,ej⟩,_⟩:=wW g y g.ns.length xA;obtain⟨nj,z⟩:=ak q;have b1:=Y.nd nj (uA z);have b2:=Y.y0 j;have e3:gz g y j=at0 y j-nj.w/2:=by rw[gz,z]
  refine⟨n,row,N,a2,a6,xA,?_⟩;rw[a4,<-e,shB];simp only[yM,Bw,Ds,Dv];omega
 generalize iz g y ls o.rsep=Q at*;generalize dN g y g.ns.length=m at*;refine kE Tryz.func84 ?_;intro hat B X w0;refine ac kO aa (ai h1 h2) ?_;refine aC _ (dg 12 901 4 rfl rfl) ?_;refine aq (λ(k:Nat)=>k<=g.ns.length/\(∀(j:Nat) b,j<k->Q[j]? =some b->okB b=true)) (λ k=>[(3, .ptr 3 0 0 0),(4, .ptr 4 0 0 0),(5, .ptr 5 0 0 0),(8, .d (aj (shY m y))),(10, .d (aj (f6 g ls o.rsep ls.length))),(11, .d (aj (fX g ls ls.length))),(12, .ref 901 4 0 (Q.take k).length (Q.take k).length),(13, .int k)]) (λ k=>[(3, .cells [.d (bi g.nm), .d (.bool g.dir), .d (.sl (g.ns.map ndD)), .d (.sl (g.es.map edD)), .d (.sl (g.cs.map clD))]),(4, .cells [.int o.md, .int o.nsep, .int o.rsep, .int o.mg, .int o.rd]),(5, .cells [.int g.ns.length, .d (am ls), .d (aw I), .d (am cs)]),(901, .row 4 ((Q.take k).map bxD))]) (λ k=>g.ns.length-k) 0 ?_ ?_ ?_
 ·exact⟨uF _,λ j b h=>xA⟩
 ·exact kN (av @yQ.{0} @uY.{0,0} @uU.{0}) []
 ·rintro k ⟨hk,L⟩;have Z:(Q.take k).length=k:=by rw[yA];omega
  rcases uD k g.ns.length with K|hge
  ·obtain⟨n,row,N,a2,a3,a4,A⟩:=hbx k K;obtain⟨n1,n2,n3,n4⟩:=Y.nd n (uA N);have M:=(uB.1 a2).1;have hl:=Y.hl;have r1:=h4 k K;have F:(shY m y)[k]? =some (at0 y k-m):=by rw[shY,uJ,aK (show k<y.length by omega)];rfl
   obtain⟨y1,y2⟩:=Y.y0 k;have E:(f6 g ls o.rsep ls.length)[R k]? =some (bX g ls o.rsep (R k)):=by rw[f6,uJ,yZ M];rfl
   have C:(fX g ls ls.length)[R k]? =some (hL g ls (R k)):=by rw[fX,uJ,yZ M];rfl
   have S:k<(shY m y).length:=by rw[shY,uC];omega
   have U:R k<(f6 g ls o.rsep ls.length).length:=by rw[Iw];exact M
   have V:R k<(fX g ls ls.length).length:=by rw[EC];exact M
   have b1:=s (R k);have b2:=hhl (R k);have c1:=x8 n.w xA xA;have c2:=x8 (hL g ls (R k)-n.h) xA xA;have e1:Q.take (k+1)=Q.take k++[_]:=aM A;have J:=Qt (at0 y k-m-n.w/2,bX g ls o.rsep (R k)+(hL g ls (R k)-n.h)/2,at0 y k-m-n.w/2+n.w,bX g ls o.rsep (R k)+(hL g ls (R k)-n.h)/2+n.h);have hok:∀ok,okB (at0 y k-m-n.w/2,bX g ls o.rsep (R k)+(hL g ls (R k)-n.h)/2,at0 y k-m-n.w/2+n.w,bX g ls o.rsep (R k)+(hL g ls (R k)-n.h)/2+n.h)=ok->(∃b,Q[k]? =some b/\okB b=ok):=λ ok h=>⟨_,A,h⟩
   generalize bX g ls o.rsep (R k)=T at*;generalize hL g ls (R k)=H at*;have O:((Q.take k).map bxD).take k=(Q.take k).map bxD:=uE (by rw[uC,Z];exact uI _);rcases ho:okB (at0 y k-m-n.w/2,T+(H-n.h)/2,at0 y k-m-n.w/2+n.w,T+(H-n.h)/2+n.h)with _|_<;>rw[ho]at J
   ·refine kw kO (bV N F E C S U V) (aE r1 c1 c2 J) ?_
    repeat' first|exact True.intro|refine Bn.mk ?_ ?_|intro G
    rw[if_neg (by rw[Bp,Ci];exact⟨_,uA A,by rw[ho];decide⟩)];exact⟨_,rfl,rfl,ap rfl,trivial⟩
   ·repeat' first|refine bt rfl ?_|refine aV ?_|refine wR ?_|(refine rc (r1) rfl ?_ ?_;(· first|rfl|simp(disch:=omega) only[go_sem,simprocAttr,N,F,E,C,S,U,V,Z,O,roomy]))|(refine rc (c1) rfl ?_ ?_;(· first|rfl|simp(disch:=omega) only[go_sem,simprocAttr,N,F,E,C,S,U,V,Z,O,roomy]))|(refine rc (c2) rfl ?_ ?_;(· first|rfl|simp(disch:=omega) only[go_sem,simprocAttr,N,F,E,C,S,U,V,Z,O,roomy]))|(refine rc (J) rfl ?_ ?_;(· first|rfl|simp(disch:=omega) only[go_sem,simprocAttr,N,F,E,C,S,U,V,Z,O,roomy]))|(refine bB rfl rfl (λ G=>?_) (λ G=>?_)<;>try simp only[hcL]at G)|(refine bA _ rfl rfl (λ G=>?_) (λ G=>?_)<;>(try simp only[hcL]at G)<;>try omega)|simp(disch:=omega) only[go_sem,simprocAttr,N,F,E,C,S,U,V,Z,O,roomy]|apply And.intro|omega|decide+kernel
    refine⟨k+1,?_,eL [(901,89)] _ _ (by refine⟨?_,?_⟩<;>(repeat' first|exact fmn|refine fmc ⟨(by first|rfl|(simp(disch:=omega) only[go_sem,simprocAttr,inL,e1,uH,yO,uO,uS,uY,Z];first|done|omega|(congr 1;done))),?_⟩);done),?_⟩
    ·exact⟨K,b9 L A ho⟩
    ·omega
  ·obtain rfl:k=g.ns.length:=xA;rw[if_pos (by
    rw[yF];intro b hb;obtain⟨j,q⟩:=qC.1 hb;exact L j b (by have:=(uB.1 q).1;omega) q)]
   rw[show Q.take g.ns.length=Q from uE xA];refine ac kO aa aa ?_;exact⟨_,rfl,bZ (o:=901) rfl rfl xB (by rw[uE xB]),ap rfl,trivial⟩
theorem Qc {g:Gph}{o:Opt}{Z:Lv}{n e:Int}(h:ah Tryz.prog 34 [a7 g,cv o] (.tup [lvD Z, .int n, .int e]))(V:e≠0):
  ah Tryz.prog 36 [a7 g,cv o] (.tup [.sl [],lvD lv0, .int e]):=by
 obtain⟨S,R,U,T⟩:=Z;refine kE Tryz.func36 ?_;intro Y B X Q;refine ac kO (ae V) (ae h) ?_;refine⟨_,rfl,rfl,⟨_,_,_,_,rfl,?_⟩,ap rfl,trivial⟩;simp(disch:=omega) only[go_sem,simprocAttr];rfl
theorem Qd {g:Gph}{o:Opt}{ls:List (List Int)}{Y:List Arc}{cs:List (List Int)}{n:Int}{bs:List Bx}(U:ah Tryz.prog 34 [a7 g,cv o] (.tup [lvD (g.ns.length,ls,Y,cs), .int n, .int 0]))
  (Z:ah Tryz.prog 84 [a7 g,cv o,lvD (g.ns.length,ls,Y,cs)] (if bs.all okB=true then(.tup [.sl (bs.map bxD), .int 0])else(.tup [.sl [], .int 2]))):
  ah Tryz.prog 36 [a7 g,cv o] (if bs.all okB=true then(.tup [.sl (bs.map bxD),lvD (g.ns.length,ls,Y,cs), .int 0])else(.tup [.sl [],lvD lv0, .int 2])):=by
 by_cases h:bs.all okB=true
 ·rw[if_pos h]at Z|-;refine kE Tryz.func36 ?_;intro V B X T;refine ac kO aa (ai U Z) ?_;refine⟨_,rfl,rfl,⟨_,_,_,_,rfl,?_⟩,ap rfl,trivial⟩;simp(disch:=omega) only[go_sem,simprocAttr]
 ·rw[if_neg h]at Z|-;refine kE Tryz.func36 ?_;intro V B X T;refine ac kO aa (ai U Z) ?_;refine⟨_,rfl,rfl,⟨_,_,_,_,rfl,?_⟩,ap rfl,trivial⟩;simp(disch:=omega) only[go_sem,simprocAttr];rfl
theorem OW (g:Gph)(o:Opt)(V:Mod g)(M:g.ns.length<=8)(Q:g.es.length<=11)(N:∀e,e∈g.es->e.ln<=4):(∃O n e,ah Tryz.prog 13 [a7 g,cv o] (.tup [lvD O, .int n, .int e])/\ah Tryz.prog 34 [a7 g,cv o] (.tup [lvD O, .int n, .int e])/\e≠0)\/
  ∃r f n,cu g/\okO o=true/\Sx.Best g.ns.length (cL g).2 r f/\(aO (pGr g) r).2=0/\aH (aO (pGr g) r).1=true/\
   ah Tryz.prog 13 [a7 g,cv o] (.tup [lvD (dt (bQ (aO (pGr g) r).1 o.rd.toNat)), .int n, .int 0])/\ah Tryz.prog 34 [a7 g,cv o] (.tup [lvD (dt (bQ (aO (pGr g) r).1 o.rd.toNat)), .int n, .int 0]):=by
 by_cases X:ee g=0
 ·have Y:cu g:=⟨V,X,M⟩;obtain⟨r,f,L,R⟩:=Sx.solve_best (n:=g.ns.length) (l:=(cL g).2) (nB Y) (FN Y);obtain⟨K,S⟩:=GP Y N R;rcases U:okO o with _|_
  ·exact .inl ⟨_,_,_,AK V X U,GN U S,xC⟩
  ·have h:=vc Y Q U L;have Z:=GM Y Q U S;rw[lV]at h Z;by_cases T:(aO (pGr g) r).2=0
   ·rw[if_pos T,jj]at h Z;by_cases c:aH (aO (pGr g) r).1=true/\0<=o.rd/\o.rd<=100
    ·rw[if_pos c]at h Z;exact .inr ⟨r,f,_,Y,rfl,R,T,c.1,h,Z⟩
    ·rw[if_neg c]at h Z;exact .inl ⟨_,_,_,h,Z,xC⟩
   ·rw[if_neg T]at h Z;exact .inl ⟨_,_,_,h,Z,xC⟩
 ·exact .inl ⟨_,_,_,AJ o V X,GL o V X,X⟩
theorem xU {g:Gph}{o:Opt}{bs:List Bx}{Z:Lv}{e:Int}(V:ah Tryz.prog 11 [a7 g, .int 6, .int 8] (.bool true))(Q:ah Tryz.prog 21 [a7 g,cv o] (.tup [.sl (bs.map bxD),lvD Z, .int e]))(O:ah Tryz.prog 36 [a7 g,cv o] (.tup [.sl (bs.map bxD),lvD Z, .int e])):
  ah Tryz.prog 8 [a7 g,cv o] (.bool true):=by
 have S:=wZ;have U:=ya Z Z;rw[show jn Z Z=true from qb.2 rfl]at U;have T:=Hy bs bs;rw[uZ rfl]at T;obtain⟨K,J,M,L⟩:=Z;by_cases Y:3<o.rd
 ·by_cases R:o.rd<=100
  ·refine kE Tryz.func8 ?_;intro h B X N;refine ac kO (ai Y R) (ai V S) ?_;exact ay rfl
  ·refine kE Tryz.func8 ?_;intro h B X N;refine ac kO (ai Y R) (bq V Q O T U S) ?_;exact ay rfl
 ·refine kE Tryz.func8 ?_;intro h B X N;refine ac kO (ae Y) (bq V Q O T U S) ?_;exact ay rfl
theorem M2 (g:Gph)(o:Opt):ah Tryz.prog 8 [a7 g,cv o] (.bool true):=by
 have C:=wZ;have Z:=D8 g 6 8 xC xC;rcases N:lM g 6 8 with _|_<;>rw[N]at Z
 ·refine kE Tryz.func8 ?_;intro hat B X w0;refine ac kO aa (ai Z C) ?_;exact ay rfl
 ·obtain⟨f1,I,H,G⟩:=wj N;rcases OW g o H xA xA G with⟨lv,n,e,U,T,L⟩|⟨r,f,n,hs,K,q,hb,O,U,T⟩
  ·exact xU (bs:=[]) Z (Jp U L) (Qc T L)
  ·obtain⟨z,za,zc,y,J,P⟩:=O8 hs K xA q hb O;rw[J]at U T;obtain⟨A,f,b,I,s,R,hM,hy⟩:=P.bal;have V:=FX K;have S:=AL P.pl V.2 xA P.ny U P.solve;have M:=Ql P.wd P.va P.al s R hM;rw[show tot (((g.ns.length:Int),z,za,zc):Lv).2.1=tot z from rfl,<-hy]at M;have Q:=P.va.tt;have hyl:=P.yl;have F:=P0 P.pl xA P.ny (by dsimp only at Q;omega) M;have E:=PU P.va P.pl V.2 xA P.ny P.rk F (λ v O=>by
    have:=Qf _ (v:Int) P.wd;rw[ye,if_pos P.va.v,P.lay v O]at this;exact this)
   have Y:=Qd T E;rw[iz]at Y;by_cases h:((plO g y z o.rsep z.length).1.map (shB (plO g y z o.rsep z.length).2.1)).all okB=true
   ·rw[if_pos h]at S Y;exact xU Z S Y
   ·rw[if_neg h]at S Y;exact xU (bs:=[]) Z S Y
end Go.Proofs.YtjjbhjnpeenbkaaGreatDoor.Gr
