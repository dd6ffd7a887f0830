/- Levels: where a vertex lies, sorted layers. -/
import Derived.Test.YtjjbhjnpeenbkaaGreatDoorC
import Derived.Test.YtjjbhjnpeenbkaaGreatDoorA
set_option linter.unusedSimpArgs false
set_option linter.unusedVariables false
set_option maxHeartbeats 16000000
namespace Go.Proofs.YtjjbhjnpeenbkaaGreatDoor
open Go Go.PS Go.Proofs
set_option maxRecDepth 100000
attribute [local irreducible] ao wpG ah ax
def bz (ls:List (List Int))(v:Int):Int:=eh (ls.findIdx? λ y=>y.any λ x=>decide (x=v))
def xV (ls:List (List Int))(v:Int):Int:=match ls.findIdx? (λ y=>y.any λ x=>decide (x=v))with
 |some k=>placeF ((ls[k]?).getD []) v
 |none=>-1
theorem Gp (l:List Int)(v:Int):decide (0<=placeF l v)=l.any λ x=>decide (x=v):=oB _ l
theorem rr (a:Lv)(v:Int):ah Tryz.prog 106 [lvD a, .int v] (.tup [.int (bz a.2.1 v), .int (xV a.2.1 v)]):=by
 obtain⟨n,V,L,K⟩:=a;refine kE Tryz.func106 ?_;intro R B X H;have N:=cO 0 1 R rfl rfl;rw[uC]at N;dsimp only at N;refine ac kO aa aa ?_;refine aq (λ(k:Nat)=>k<=V.length/\∀(j:Nat) y,j<k->V[j]? =some y->(y.any λ x=>decide (x=v))=false) (λ k=>[(1, .int v),(2, .ptr 2 0 0 0),(10, .d (am V)),(11, .int V.length),(12, .int k)]) (λ k=>[(2, .cells [.int n, .d (am V), .d (aw L), .d (am K)])]) (λ k=>V.length-k) 0 ?_ ?_ ?_
 ·exact⟨uF _,λ j y h=>xA⟩
 ·exact kN aa []
 ·rintro k ⟨I,Z⟩;rcases uD k V.length with Q|J
  ·obtain⟨p,S⟩:=ak Q;have T:=tA p v;have Y:=Gp p v;by_cases O:0<=placeF p v
   ·rw[uZ O]at Y;have U:V.findIdx? (λ y=>y.any λ x=>decide (x=v))=some k:=jc S Y.symm Z;refine ac kO (ae S) (ae T) ?_;refine⟨_,rfl,ap ?_,ap ?_,trivial⟩
    ·dsimp only[bz];rw[U];rfl
    ·dsimp only[xV];rw[U];dsimp only;rw[S];rfl
   ·rw[uW O]at Y;refine ac kO (ae S) (ae T) ?_;refine⟨k+1,?_,kN aa [],?_⟩
    ·exact⟨xA,b9 Z S Y.symm⟩
    ·omega
  ·have U:V.findIdx? (λ y=>y.any λ x=>decide (x=v))=none:=ka λ j y M=>Z j y (by have:=(uB.1 M).1;omega) M
   refine ac kO aa aa ?_;refine⟨_,rfl,ap ?_,ap ?_,trivial⟩
   ·dsimp only[bz];rw[U];rfl
   ·dsimp only[xV];rw[U]
def fd (a:Lv):Lv:=(a.1,a.2.1.map bh,a.2.2.1,a.2.2.2)
theorem SO (a:Lv)(J:a.2.1.length<=1000)(Q:∀y,y∈a.2.1->y.length*8<=140737488351232):ah Tryz.prog 108 [lvD a] (lvD (fd a)):=by
 obtain⟨n,Z,O,N⟩:=a;dsimp only at J Q;refine kE Tryz.func108 ?_;intro M B X E;refine ac kO aa aa ?_;refine aC _ (DY 9 Z.length rfl) ?_;refine aq (λ(k:Nat)=>k<=Z.length) (λ k=>[(1, .ptr 1 0 0 0),(2, .ptr 2 0 0 0),(3, .ref 9 1 0 Z.length Z.length),(11, .d (am Z)),(12, .int Z.length),(13, .int k)]) (λ k=>[(1, .cells [.int n, .d (am Z), .d (aw O), .d (am N)]),(2, .cells [.int 0, .nilS, .nilS, .nilS]),(9, .row 1 (((Z.map bh).take k).map aj++List.replicate (Z.length-k) (.sl [])))]) (λ k=>Z.length-k) 0 ?_ ?_ ?_
 ·exact uF _
 ·exact kN (aE @yQ.{0} @uY.{0,0} @gB.{0} @kC) []
 ·intro k F;rcases uD k Z.length with U|L
  ·obtain⟨p,T⟩:=ak U;have I:=Q p (uA T);have G:=vg p;have H:=vf p xA;have K:(Z.map bh)[k]? =some (bh p):=by rw[uJ,T];rfl
   have S:(((Z.map bh).take k).map aj++List.replicate (Z.length-k) (D.sl [])).set k (aj (bh p))=((Z.map bh).take (k+1)).map aj++List.replicate (Z.length-(k+1)) (D.sl []):=by
    have V:(((Z.map bh).take k).map aj).length=k:=by rw[uC,yA,uC];omega
    have e:Z.length-k=(Z.length-(k+1))+1:=xA;rw[Cu,V,if_neg xA,jK,e,zS,kX,aM K,uO,qG];rfl
   have h:(((Z.map bh).take k).map aj++List.replicate (Z.length-k) (D.sl [])).length=Z.length:=by
    rw[uH,uC,yA,uC,yH];omega
   have Y:(((Z.map bh).take k).map aj++List.replicate (Z.length-k) (D.sl []))[k]? =some (D.sl []):=by
    rw[qL (by rw[uC,yA,uC];omega),uC,yA,uC,jF xA,jK,gA,if_pos xA]
   refine ac kO (av T h Y) (ai G H) ?_;refine⟨k+1,?_,kN (ae S) [],?_⟩
   ·omega
   ·omega
  ·have:k=Z.length:=xA;subst this;have R:((Z.map bh).take Z.length)=Z.map bh:=uE (by rw[uC];exact uI _)
   try dsimp only
   rw[R,jK];refine ac kO aa aa ?_;refine⟨_,_,_,_,rfl,?_⟩;simp(disch:=omega) only[go_sem,simprocAttr,toD,Cv,yS,uC,uE];rw[uE (by rw[uC,uC];exact uI _)];rfl
def eJ (o:List Int)(x:Int):Nat->Nat
 |0=>0
 |k+1=>if x<at0 o k then eJ o x k else k+1
theorem v6 (o:List Int)(x:Int):∀k,eJ o x k<=k
 |0=>uI _
 |k+1=>by rw[eJ];have:=v6 o x k;split<;>omega
def kf (o:List Int)(x:Int):List Int:=o.take (eJ o x o.length)++[x]++o.drop (eJ o x o.length)
theorem ML (o:List Int)(x:Int):(kf o x).length=o.length+1:=by
 have:=v6 o x o.length;simp only[kf,uH,yA,jR,uV,uU];omega
def gr (l:List Int):Nat->List Int
 |0=>[]
 |k+1=>kf (gr l k) (at0 l k)
theorem EN (l:List Int):∀k,(gr l k).length=k
 |0=>rfl
 |k+1=>by rw[gr,ML,EN l k]
theorem OC (r:List Int)(k:Nat):∀d,d∈(List.map D.int r).take k->d.cells.length=1:=λ d h=>fb r d (gT h)
theorem OA (r:List Int)(k:Nat):∀d,d∈(List.map D.int r).drop k->d.cells.length=1:=λ d h=>fb r d (jS h)
theorem OB (r:List Int)(k j:Nat):∀d,d∈((List.map D.int r).drop k).take j->d.cells.length=1:=λ d h=>fb r d (jS (gT h))
theorem Qm (l:List Int)(q:l.length<=1000):ah Tryz.prog 114 [aj l] (aj (gr l l.length)):=by
 refine kE Tryz.func114 ?_;intro C B X w0;refine ac kO aa aa ?_;refine aC _ (dg 3 900 1 rfl rfl) ?_;refine aq (λ(i:Nat)=>i<=l.length) (λ i=>[(0, .d (aj l)),(3, .ref 900 1 0 i i),(4, .int i)]) (λ i=>[(900, .row 1 ((gr l i).map D.int))]) (λ i=>l.length-i) 0 ?_ ?_ ?_
 ·exact uF _
 ·exact kN (ai @gr.eq_1 @uY.{0,0}) []
 ·intro i s;have Z:=EN l i;rcases uD i l.length with L|A
  ·have Q:=aK L;have V:gr l (i+1)=kf (gr l i) (at0 l i):=rfl;generalize at0 l i=x at Q V;generalize z:gr l i=O at Z V|-;refine ac kO aa aa ?_;refine aq (λ(k:Nat)=>k<=i/\eJ O x k=eJ O x i) (λ k=>[(0, .d (aj l)),(3, .ref 900 1 0 i i),(4, .int i),(5, .int k)]) (λ k=>[(900, .row 1 (O.map D.int))]) (λ k=>k) i ?_ ?_ ?_
   ·exact⟨uI _,rfl⟩
   ·exact kN aa []
   ·rintro k ⟨F,h⟩;rcases qO k with G|G
    ·subst G;have N:((0:Nat):Int).toNat=0:=rfl;have T:min 0 i=0:=xA;have S:List.take i (List.map D.int O)=List.map D.int O:=uE (by rw[uC];omega);have U:(List.map D.int O).length=i:=by rw[uC,Z]
     refine ac (cE (Nat.beq 31) (b:=true)) (bj Q N F Z @qD.{0} @gB.{0} @kC (aQ @List.take_take.{0} @Nat.min_self T S U)) aa ?_;have Y:kf O x=x::O:=by rw[kf,Z,<-h];simp[eJ]
     refine⟨i+1,?_,kN (av V Y @uS.{0,0}) [(900,47)],?_⟩
     ·omega
     ·omega
    ·obtain⟨k,rfl⟩:∃m,k=m+1:=⟨k-1,xA⟩;have H:=aK (r:=O) (i:=k) xA;have I:(((k+1:Nat):Int)-1).toNat=k:=xA;have N:(((k+1:Nat):Int)).toNat=k+1:=xA;have T:min (k+1) i=k+1:=xA;have U:(List.take (k+1) (List.map D.int O)).length=k+1:=by rw[yA,uC];omega
     have S:List.take (i-(k+1)) (List.drop (k+1) (List.map D.int O))=List.drop (k+1) (List.map D.int O):=uE (by rw[jR,uC];omega);have J:(List.drop (k+1) (List.map D.int O)).length=i-(k+1):=by rw[jR,uC];omega
     have M:k+1+(i-(k+1))=i:=xA;have K:List.take (k+1+1) (List.take (k+1) (List.map D.int O)++[D.sc (Value.int IntKind.i64 x)])=List.take (k+1) (List.map D.int O)++[D.int x]:=uE (by rw[uH,U];exact uI _);rw[eJ]at h;by_cases E:x<at0 O k
     ·rw[if_pos E]at h;refine ac kO (av Q H I) aa ?_;refine⟨k,?_,kN (av @qQ @gN @Dg) [],?_⟩
      ·exact⟨xA,h⟩
      ·omega
     ·rw[if_neg E]at h
      repeat' first|refine bt rfl ?_|refine aV ?_|refine dA (Nat.beq 31) ck ?_|(refine bB rfl rfl (λ R=>?_) (λ R=>?_)<;>try simp only[hcL]at R)|(refine bA _ rfl rfl (λ R=>?_) (λ R=>?_)<;>(try simp only[hcL]at R)<;>try omega)|simp(disch:=omega) only[go_sem,simprocAttr,Q,H,I,N,roomy,F,Z,qD,gB,kC,List.take_take,Nat.min_self,T,S,U,J,M,uI,uH,uV,uU,yU]|(first|exact fb _|exact OC _ _|exact OA _ _|exact OB _ _ _)|apply And.intro|omega|decide+kernel
      have Y:kf O x=O.take (k+1)++[x]++O.drop (k+1):=by rw[kf,Z,<-h]
      refine⟨i+1,?_,eL [(900,47)] _ _ (by refine⟨?_,?_⟩<;>(repeat' first|exact fmn|refine fmc ⟨(by first|rfl|(simp(disch:=omega) only[go_sem,simprocAttr,inL,V,Y,K,uO,Ai,List.map_drop];first|done|omega|(congr 1;done))),?_⟩);done),?_⟩
      ·omega
      ·omega
  ·have:i=l.length:=xA;subst this;refine ac kO aa aa ?_;exact bZ (o:=900) rfl rfl (by simp[Z]) (uE (by simp[Z]))
theorem DP (o:List Int)(x:Int):∀(k j:Nat),eJ o x k<=j->j<k->x<at0 o j
 |0,j,_,h=>xA
 |k+1,j,Z,X=>by
  rw[eJ]at Z;split at Z
  ·rename_i Y;rcases uD j k with h|h
   ·exact DP o x k j Z h
   ·rw[show j=k by omega];exact Y
  ·omega
theorem DQ (o:List Int)(x:Int):∀(k p:Nat),eJ o x k=p+1->at0 o p<=x
 |0,p,h=>by rw[eJ]at h;omega
 |k+1,p,h=>by
  rw[eJ]at h;split at h
  ·exact DQ o x k p h
  ·rename_i Z;rw[show p=k by omega];omega
theorem MM (o:List Int)(x:Int):(kf o x).Perm (x::o):=by
 rw[kf,qG,List.singleton_append];refine Bl.trans ?_;rw[gR]
theorem MN {o:List Int}(h:o.Pairwise (·<=·))(x:Int):(kf o x).Pairwise (·<=·):=by
 have V:∀a,a∈o.take (eJ o x o.length)->a<=x:=by
  intro a Z;obtain⟨j,Y⟩:=qC.1 Z;rw[qS]at Y;split at Y
  ·rename_i J;obtain⟨p,I⟩:∃p,eJ o x o.length=p+1:=⟨eJ o x o.length-1,xA⟩;have S:=DQ o x o.length p I;have H:=v6 o x o.length;have R:=aK (r:=o) (i:=p) xA;rcases uD j p with Q|Q
   ·have O:=(uB.1 Y);obtain⟨N,M⟩:=O;obtain⟨L,K⟩:=uB.1 R;have:=jB.1 h j p N L Q;rw[M,K]at this;exact zD this S
   ·have:j=p:=xA;subst this;rw[R]at Y;cases Y;exact S
  ·cases Y
 have X:∀a,a∈o.drop (eJ o x o.length)->x<=a:=by
  intro a Z;obtain⟨j,Y⟩:=qC.1 Z;rw[gC]at Y;have U:eJ o x o.length+j<o.length:=(uB.1 Y).1;have S:=DP o x o.length (eJ o x o.length+j) xA U;rw[aK U]at Y;cases Y;omega
 rw[kf];refine gP.2 ⟨gP.2 ⟨h.sublist (List.take_sublist _ _),zQ _ _,λ a Z b T=>?_⟩,h.sublist (List.drop_sublist _ _),λ a Z b T=>?_⟩
 ·rw[uX.1 T];exact V a Z
 ·rcases yP.1 Z with Z|Z
  ·exact zD (V a Z) (X b T)
  ·rw[uX.1 Z];exact X b T
theorem EO (l:List Int):∀k,k<=l.length->(gr l k).Perm (l.take k)
 |0,_=>by simp[gr]
 |k+1,h=>by
  rw[gr,aM (aK (r:=l) (i:=k) xA)];exact(MM _ _).trans (((EO l k xA).cons _).trans (List.perm_append_singleton _ _).symm)
theorem EP (l:List Int):∀k,(gr l k).Pairwise (·<=·)
 |0=>List.Pairwise.nil
 |k+1=>by rw[gr];exact MN (EP l k) _
theorem y5 (l:List Int):(bh l).Pairwise (·<=·):=by
 have h:=List.pairwise_mergeSort (le:=λ x y:Int=>decide (x<=y)) (by intro a b c Z Y;simp only[uG]at*;omega) (by intro a b;simp only[gI,uG];omega) l;exact h.imp λ h=>by simpa using h
theorem n0 (l:List Int):(bh l).Perm l:=List.mergeSort_perm _ _
theorem EM (l:List Int):gr l l.length=bh l:=by
 refine By (le:=(·<=·)) (λ a b _ _ h Z=>Int.le_antisymm h Z) (EP l _) (y5 l) ?_;have:=EO l l.length (uI _);rw[yE]at this;exact this.trans (n0 l).symm
theorem yb (l:List Int)(h:l.length<=1000):ah Tryz.prog 114 [aj l] (aj (bh l)):=EM l▸Qm l h
theorem Pu (a:Lv)(J:a.2.1.length<=1000)(N:∀y,y∈a.2.1->y.length<=1000):ah Tryz.prog 56 [lvD a] (lvD (fd a)):=by
 obtain⟨n,Z,Q,O⟩:=a;dsimp only at J N;refine kE Tryz.func56 ?_;intro M B X G;refine ac kO aa aa ?_;refine aC _ (dm 3 1 901 1 rfl rfl rfl) ?_;refine aq (λ(k:Nat)=>k<=Z.length) (λ k=>[(1, .ptr 1 0 0 0),(2, .ptr 2 0 0 0),(3, .ptr 3 0 0 0),(4, .int k)]) (λ k=>[(1, .cells [.int n, .d (am Z), .d (aw Q), .d (am O)]),(2, .cells [.int 0, .nilS, .nilS, .nilS]),(3, .cells [.int n, .ref 901 1 0 k k, .d (aw Q), .d (am O)]),(901, .row 1 (((Z.map bh).take k).map aj))]) (λ k=>Z.length-k) 0 ?_ ?_ ?_
 ·exact uF _
 ·exact kN (ai @yQ.{0} @uY.{0,0}) []
 ·intro k H;rcases uD k Z.length with Y|L
  ·obtain⟨p,V⟩:=ak Y;have U:=N p (uA V);have I:=yb p U;have K:(Z.map bh)[k]? =some (bh p):=by rw[uJ,V];rfl
   have R:=aM K;have h:(((Z.map bh).take k).map aj).length=k:=by rw[uC,yA,uC];omega
   have T:List.take k (((Z.map bh).take k).map aj)=((Z.map bh).take k).map aj:=uE (by rw[h];exact uI _);refine ac kO (ai V h) (ae I) ?_;refine⟨k+1,?_,kN (av R @uO.{0,0} T) [(901,28)],?_⟩
   ·omega
   ·omega
  ·have:k=Z.length:=xA;subst this;have S:((Z.map bh).take Z.length)=Z.map bh:=uE (by rw[uC];exact uI _)
   try dsimp only
   rw[S];refine ac kO aa aa ?_;refine⟨_,_,_,_,rfl,?_⟩;simp(disch:=omega) only[go_sem,simprocAttr,toD,uC];rw[uE (by rw[uC,uC];exact uI _)];rfl
theorem lS (a b:Int):(if b<a then b else a)=min a b:=xA
def cb (g:Nat->Int)(n k:Nat):List Int:=(List.range n).map λ u=>if u<k then g u else 0
theorem fV (g:Nat->Int)(n k:Nat):(cb g n k).length=n:=by simp[cb]
theorem k7 {g:Nat->Int}{n k u:Nat}(h:u<n):(cb g n k)[u]? =some (if u<k then g u else 0):=by simp[cb,h]
theorem oy (g:Nat->Int)(n:Nat):(cb g n 0).map D.int=List.replicate n (D.int 0):=by
 rw[Ac];refine⟨by simp[cb],λ b h=>?_⟩;simp only[cb,gU,uR]at h;obtain⟨u,_,rfl⟩:=h;simp
theorem ox {g:Nat->Int}{n k:Nat}(h:k<n):(cb g n k).set k (g k)=cb g n (k+1):=by
 refine yX λ u=>?_
 by_cases Y:u<n
 ·rw[k7 Y,qF,k7 Y,fV];by_cases c:k=u
  ·subst c;rw[if_pos rfl,if_pos h,if_pos xA]
  ·rw[if_neg c];by_cases Z:u<k
   ·rw[if_pos Z,if_pos xA]
   ·rw[if_neg Z,if_neg xA]
 ·rw[uL (by rw[yJ,fV];omega),uL (by rw[fV];omega)]
theorem ov (g:Nat->Int)(n:Nat):cb g n n=(List.range n).map g:=by
 rw[cb];refine yK λ u h=>?_
 rw[if_pos (yD.1 h)]
theorem B0 {T cs:List D}{l:List D}{m:List D}{k:Nat}(i j:Nat)(h:∃w X vs,oa w X T vs)(R:T[i]? =some (.ag cs))(Q:cs[j]? =some (.sl l))(O:l[k]? =some (.sl m)):m.length<=9223372036854775807:=by
 obtain⟨w,X,vs,J,M⟩:=h;have Z:i<vs.size:=by have:=(uB.1 R).1;omega
 have:=M i _ _ R (yC Z);generalize vs[i]=v at this;cases this with
 |ag _ arr V N Y=>
  have Z:j<arr.size:=by have:=(uB.1 Q).1;omega
  have:=Y j _ _ Q (yC Z);generalize arr[j]=v at this;cases this with
  |slnil=>cases O
  |sl _ b U cap s K S V vals I L=>
   have:=L k _ 0 _ O rfl;generalize vals k 0=v at this;cases this with
   |slnil=>simp
   |sl _ b U cap s K S=>simp only[maxLen]at S;omega
def eg (c:List Int):Arc:=(at0 c 0,at0 c ((c.length:Int)-1))
def bT (a:Lv):Gr:=(a.1,a.2.2.2.map eg)
def cd (a:Lv):List Int:=(List.range a.1.toNat).map λ v:Nat=>bz a.2.1 v
def ld (a:Lv):Bool:=decide (0<=a.1/\a.1<=64/\a.2.2.2.length<=256/\a.2.1.length<=256)
def iI (c:List Int):Bool:=decide (c.length<2)
def oE (a:Lv)(v:Nat):Bool:=decide (bz a.2.1 v<0)
def mo (a:Lv):Bool:= !(List.range a.1.toNat).any (oE a)
def aH (a:Lv):Bool:=ld a&& !a.2.2.2.any iI&&mo a&&decide ((aO (bT a) (cd a)).2=0)&&jn (fd a) (aO (bT a) (cd a)).1
def wide (a:Lv):Prop:=∀y,y∈a.2.1->y.length*8<=152
theorem oh (a:Lv)(hw:wide a):ah Tryz.prog 51 [lvD a] (.bool (aH a)):=by
 have hfd:=rr a;have M:=AG (bT a) (cd a);have hsd:=SO a;have V:=Js (fd a) (aO (bT a) (cd a)).1;obtain⟨m,Y,U,Z⟩:=a;refine kE Tryz.func51 ?_;intro N B X w0;have h1:=cO 0 1 N rfl rfl;have h2:=cO 0 2 N rfl rfl;have h3:=cO 0 3 N rfl rfl;rw[uC]at h1 h2 h3;dsimp only at h1 h2 h3;refine kw kO aa aa ?_
 repeat' first|exact True.intro|refine Bn.mk ?_ ?_|intro hc
 all_goals try (refine ay ?_;simp[aH,ld];omega)
 obtain⟨n,rfl⟩:∃n:Nat,m=n:=⟨m.toNat,xA⟩;have hhd:ld ((n:Int),Y,U,Z)=true:=by simp[ld];omega
 have hn64:n<=64:=xA;have hc256:Z.length<=256:=xA;have hl256:Y.length<=256:=xA;refine aC _ (dm 3 1 901 2 rfl rfl rfl) ?_;refine aq (λ(k:Nat)=>k<=Z.length/\∀(j:Nat) y,j<k->Z[j]? =some y->iI y=false) (λ k=>[(1, .ptr 1 0 0 0),(3, .ptr 3 0 0 0),(34, .d (am Z)),(35, .int Z.length),(36, .int k)]) (λ k=>[(1, .cells [.int n, .d (am Y), .d (aw U), .d (am Z)]),(3, .cells [.int n, .ref 901 2 0 k k]),(901, .row 2 (((Z.take k).map eg).map bo))]) (λ k=>Z.length-k) 0 ?_ ?_ ?_
 ·exact⟨uF _,λ j y h=>xA⟩
 ·exact kN (ai @yQ.{0} @uY.{0,0}) []
 ·rintro k ⟨hk,J⟩;rcases uD k Z.length with Q|hge
  ·obtain⟨c,T⟩:=ak Q;by_cases L:c.length<2
   ·refine ac kO (ae T) aa ?_;refine ay ?_;have:Z.any iI=true:=dk T (by simpa[iI]using L);simp[aH,this]
   ·have hcl:c.length<=9223372036854775807:=by have:=B0 (m:=c.map D.int) (k:=k) 0 3 N rfl rfl (by rw[uJ,T];rfl);rwa [uC]at this
    have e1:=aK (r:=c) (i:=0) xA;have e2:=fP (r:=c) (v:=(c.length:Int)-1) xA xA;have hts:=aM T;have C:(((Z.take k).map eg).map bo).length=k:=by rw[uC,uC,yA];omega
    have htk:List.take k (((Z.take k).map eg).map bo)=((Z.take k).map eg).map bo:=uE (by rw[C];exact uI _);refine ac kO (aE T e1 e2 C) aa ?_;refine⟨k+1,?_,kN (av hts @uO.{0,0} htk) [(901,56)],?_⟩
    ·exact⟨xA,b9 J T (by simpa[iI]using L)⟩
    ·omega
  ·have:k=Z.length:=xA;subst this;have L:Z.any iI=false:=d6 λ j y hj=>J j y hj
   try dsimp only
   rw[yE];refine ac (cE (Nat.beq 61) (b:=false)) aa aa ?_;refine aq (λ(v:Nat)=>v<=n/\∀u,u<v->oE (n,Y,U,Z) u=false) (λ v=>[(1, .ptr 1 0 0 0),(3, .ptr 3 0 0 0),(6, .ref 61 1 0 n n),(63, .int n),(64, .int v)]) (λ v=>[(1, .cells [.int n, .d (am Y), .d (aw U), .d (am Z)]),(3, .cells [.int n, .ref 901 2 0 Z.length Z.length]),(901, .row 2 ((Z.map eg).map bo)),(61, .row 1 ((cb (λ u=>bz Y u) n v).map D.int))]) (λ v=>n-v) 0 ?_ ?_ ?_
   ·exact⟨uF _,λ u h=>xA⟩
   ·exact kN (ae @oy) []
   ·rintro v ⟨hv,O⟩;have F:=fV (λ u=>bz Y u) n v;rcases uD v n with Q|hge
    ·have hg:=k7 (g:=λ u=>bz Y u) (k:=v) Q;have hst:=ox (g:=λ u=>bz Y u) Q;have V:(List.map D.int (cb (λ u=>bz Y u) n v)).set v (D.sc (Value.int IntKind.i64 (bz Y v)))=List.map D.int (cb (λ u=>bz Y u) n (v+1)):=by rw[<-hst,yW]
     have K:=fV (λ u=>bz Y u) n (v+1);have G:=k7 (g:=λ u=>bz Y u) (k:=v+1) Q;rw[if_pos xA]at G;have hf:=hfd v;dsimp only at hf;by_cases hn:bz Y v<0
     ·have H:mo ((n:Int),Y,U,Z)=false:=by
       rw[mo,Aw,gW];exact⟨v,by simpa using Q,by simpa[oE]using hn⟩
      refine ac kO (aQ hg V G F K) (ae hf) ?_;refine ay ?_;simp[aH,H]
     ·refine ac kO (aQ hg V G F K) (ae hf) ?_;refine⟨v+1,?_,kN (ae V) [],?_⟩
      ·refine⟨xA,λ u hu=>?_⟩;rcases qP.1 hu with h|rfl
       ·exact O u h
       ·simpa[oE]using hn
      ·omega
    ·have:v=n:=xA;subst this;have H:mo ((v:Int),Y,U,Z)=true:=by
      rw[mo,yL,qH];intro u hu;rw[O u (by simpa using hu)]
      decide
     have hre:cb (λ u=>bz Y u) v v=cd ((v:Int),Y,U,Z):=by rw[ov,cd];rfl
     have z:bT ((v:Int),Y,U,Z)=((v:Int),Z.map eg):=rfl
     try dsimp only
     rw[hre];rw[z]at M V;have hvf:aH ((v:Int),Y,U,Z)=(decide ((aO ((v:Int),Z.map eg) (cd ((v:Int),Y,U,Z))).2=0)&&jn (fd ((v:Int),Y,U,Z)) (aO ((v:Int),Z.map eg) (cd ((v:Int),Y,U,Z))).1):=by rw[aH,hhd,L,H,z];simp
     rw[hvf];have A:(cd ((v:Int),Y,U,Z)).length=v:=by simp[cd]
     generalize cd ((v:Int),Y,U,Z)=R at*;generalize aO ((v:Int),Z.map eg) R=BF at*;obtain⟨b,e⟩:=BF;have I:=hsd (by simpa using(show Y.length<=1000 by omega)) (λ y hy=>by have:=hw y hy;omega);generalize fd ((v:Int),Y,U,Z)=S at*;dsimp only at M V|-;have htA:((Z.map eg).map bo).take Z.length=(Z.map eg).map bo:=uE xB;have q:(R.map D.int).take v=R.map D.int:=uE (by simp[A]);have hlA:((Z.map eg).map bo).length=Z.length:=xB;have E:(R.map D.int).length=v:=by simp[A]
     refine aC _ (fo 901 2 ((Z.map eg).map bo) rfl (fa _ rfl) xC) ?_;refine kR (aE @qD.{0} htA hlA @uI) [] [(1, .ptr 1 0 0 0),(3, .ptr 3 0 0 0),(6, .ref 61 1 0 v v),(63, .int v),(64, .int v)] [(1, .cells [.int v, .d (am Y), .d (aw U), .d (am Z)]),(3, .cells [.int v, .d (aw (Z.map eg))]),(61, .row 1 (R.map D.int))] ?_;refine aC _ (fo 61 1 (R.map D.int) rfl (fa _ rfl) xC) ?_;by_cases he:e=0
     ·subst he;rcases s:jn S b with _|_<;>rw[s]at V
      all_goals
       refine ac kO (av q E @qD.{0}) (av M I V) ?_;refine ay ?_;simp[s]
     ·refine ac kO (aE he q E @qD.{0}) (av M I V) ?_;refine ay ?_;simp[he]
def tot :List (List Int)->Nat
 |[]=>0
 |y::l=>y.length+tot l
theorem Iy (l m:List (List Int)):tot (l++m)=tot l+tot m:=by
 induction l with
 |nil=>simp[tot]
 |cons y l Z=>simp only[gK,tot,Z];omega
theorem sC {l:List (List Int)}{k:Nat}{y:List Int}(h:l[k]? =some y):tot (l.take (k+1))=tot (l.take k)+y.length:=by
 rw[aM h,Iy];simp[tot]
theorem ql (l:List (List Int))(k:Nat):tot (l.take k)<=tot l:=by
 conv=>rhs;rw[<-gR k l]
 rw[Iy];omega
theorem sB (l:List (List Int)):l.flatten.length=tot l:=by
 induction l with
 |nil=>rfl
 |cons y l Z=>simp only[Bf,uH,tot,Z]
theorem cV {l:List (List Int)}{y:List Int}(h:y∈l):y.length<=tot l:=by
 induction l with
 |nil=>cases h
 |cons x l Z=>
  rw[tot];rcases yI.1 h with rfl|h
  ·omega
  ·have:=Z h;omega
def fq (c:Nat)(ls:List (List Int)):Bool:=ls.flatten.all (λ v=>decide (0<=v/\v<c))&&decide ls.flatten.Nodup
def ea (c:Nat)(ls:List (List Int)):List Int:=(List.range c).map λ v:Nat=>bz ls v
def ep (ls:List (List Int)):Option (List Int):=if 256<ls.length\/512<tot ls then none else if fq (tot ls) ls then some (ea (tot ls) ls)else none
theorem kp (c:Nat)(ls:List (List Int)):(ea c ls).length=c:=by simp[ea]
theorem sq {c v:Nat}(h:v<c)(ls:List (List Int)):(ea c ls)[v]? =some (bz ls v):=by simp[ea,h]
theorem lT {ls:List (List Int)}{v:Int}:0<=bz ls v↔v∈ls.flatten:=by
 have h:=oB (λ y:List Int=>y.any λ x=>decide (x=v)) ls;have:decide (0<=bz ls v)=true↔v∈ls.flatten:=by
  rw[bz,h,gW,zX];constructor
  ·rintro⟨y,Z,Y⟩;obtain⟨x,X,V⟩:=gW.1 Y;have:x=v:=by simpa using V
   exact⟨y,Z,this▸X⟩
  ·rintro⟨y,Z,Y⟩;exact⟨y,Z,gW.2 ⟨v,Y,xB⟩⟩
 simpa using this
theorem wQ {ls:List (List Int)}{v:Int}(h:v∉ls.flatten):bz ls v=-1:=by
 have Z:¬0<=bz ls v:=λ Y=>h (lT.1 Y)
 unfold bz at Z|-;unfold eh at Z|-;split
 ·rename_i i X;rw[X]at Z;dsimp only at Z;omega
 ·rfl
theorem E4 (ls:List (List Int))(y:List Int)(v:Int):bz (ls++[y]) v=if v∈ls.flatten then bz ls v else if v∈y then(ls.length:Int)else -1:=by
 by_cases Y:v∈ls.flatten
 ·rw[if_pos Y];have Z:=lT.2 Y;unfold bz at Z|-;rw[List.findIdx?_append];cases V:ls.findIdx? (λ y=>y.any λ x=>decide (x=v))with
  |none=>rw[V]at Z;exact absurd Z xC
  |some i=>rfl
 ·rw[if_neg Y];have Z:=wQ Y;by_cases X:v∈y
  ·rw[if_pos X];unfold bz at Z|-;rw[List.findIdx?_append];cases V:ls.findIdx? (λ y=>y.any λ x=>decide (x=v))with
   |some i=>rw[V]at Z;simp only[eh]at Z;omega
   |none=>
    have:(y.any λ x=>decide (x=v))=true:=gW.2 ⟨v,X,xB⟩;rw[jV,if_pos this];simp[eh]
  ·rw[if_neg X];refine wQ ?_;rw[Am,yP];rintro(h|h)
   ·exact Y h
   ·exact X (by simpa using h)
def pre (ls:List (List Int))(i k:Nat):List (List Int):=ls.take i++[((ls[i]?).getD []).take k]
theorem L1 (ls:List (List Int)){i k:Nat}{y:List Int}(h:ls[i]? =some y):ls.flatten=(pre ls i k).flatten++(y.drop k++(ls.drop (i+1)).flatten):=by
 have Z:ls.drop i=y::ls.drop (i+1):=by
  obtain⟨X,Y⟩:=uB.1 h;rw[<-Y];exact qV X
 conv=>lhs;rw[<-gR i ls,Z,Am,Bf]
 rw[pre,h,Am];simp only[yN,Bf,List.flatten_nil,yS]
 conv=>lhs;rw[<-gR k y]
 simp only[qG]
theorem L2 (ls:List (List Int)){i k:Nat}{y:List Int}{v:Int}(h:ls[i]? =some y)(Z:y[k]? =some v):(pre ls i (k+1)).flatten=(pre ls i k).flatten++[v]:=by
 simp only[pre,h,yN,Am,Bf,List.flatten_nil,yS,aM Z,qG]
theorem Rf {c:Nat}(ls:List (List Int)){i k:Nat}{y:List Int}{v:Int}(h:ls[i]? =some y)(U:y[k]? =some v)(T:0<=v)(X:bz (pre ls i k) v<0):
  (ea c (pre ls i k)).set v.toNat (i:Int)=ea c (pre ls i (k+1)):=by
 have V:(ls.take i).length=i:=by rw[yA];have:=(uB.1 h).1;omega
 refine yX λ u=>?_
 by_cases Y:u<c
 ·rw[sq Y,qF,sq Y,kp];simp only[pre,h,yN,E4,aM U,V,yP,uX]at X|-;by_cases e:v.toNat=u
  ·subst e;have ev:((v.toNat:Nat):Int)=v:=xA;rw[if_pos rfl,if_pos Y,ev];split at X
   ·rename_i Z;have:=lT.2 Z;omega
   ·rename_i Z;rw[if_neg Z,if_pos (.inr rfl)]
  ·rw[if_neg e];have:¬(u:Int)=v:=xA;simp[this]
 ·rw[uL (by rw[yJ,kp];omega),uL (by rw[kp];omega)]
theorem M3 (ls:List (List Int))(i:Nat)(v:Int):bz (pre ls i 0) v=bz (ls.take i) v:=by
 rw[pre,E4];by_cases h:v∈(ls.take i).flatten
 ·rw[if_pos h]
 ·rw[if_neg h,yQ,if_neg gV,wQ h]
theorem Re (c:Nat)(ls:List (List Int))(i:Nat):ea c (pre ls i 0)=ea c (ls.take i):=by
 simp only[ea,M3]
theorem PE {ls:List (List Int)}{i:Nat}{y:List Int}(h:ls[i]? =some y):pre ls i y.length=ls.take (i+1):=by
 rw[pre,h,yN,yE,aM h]
theorem Mj {c:Nat}{ls:List (List Int)}{i:Nat}:fq c (pre ls i 0)=fq c (ls.take i):=by
 simp[fq,pre]
theorem ms {c:Nat}{ls:List (List Int)}:fq c ls=true↔(∀v∈ls.flatten,0<=v/\v<c)/\ls.flatten.Nodup:=by
 simp only[fq,uN,yF,uG]
theorem Mk {c:Nat}{ls:List (List Int)}{i k:Nat}{y:List Int}{v:Int}(h:ls[i]? =some y)(Q:y[k]? =some v)(Y:fq c (pre ls i k)=true)(X:0<=v)(V:v<c)(O:bz (pre ls i k) v<0):
  fq c (pre ls i (k+1))=true:=by
 rw[ms]at Y|-;rw[L2 ls h Q];have R:v∉(pre ls i k).flatten:=λ S=>by have:=lT.2 S;omega
 refine⟨λ u Z=>?_,zC.2 ⟨Y.2,xB,λ a U b T=>?_⟩⟩
 ·rcases yP.1 Z with Z|Z
  ·exact Y.1 u Z
  ·rw[uX.1 Z];exact⟨X,V⟩
 ·rw[uX.1 T];rintro rfl;exact R U
theorem B6 {c:Nat}{ls:List (List Int)}{i k:Nat}{y:List Int}{v:Int}(h:ls[i]? =some y)(S:y[k]? =some v)(Z:v<0\/(c:Int)<=v\/0<=bz (pre ls i k) v):fq c ls=false:=by
 rw[Cg];intro Y;rw[ms]at Y;have V:y.drop k=v::y.drop (k+1):=by
  obtain⟨T,U⟩:=uB.1 S;rw[<-U];exact qV T
 have X:=L1 ls (k:=k) h;rw[V]at X;rw[X]at Y;have R:=Y.1 v xB;rcases Z with Z|Z|Z
 ·omega
 ·omega
 ·exact(zC.1 Y.2).2.2 v (lT.1 Z) v xB rfl
theorem Rg (c:Nat):ea c []=List.replicate c (-1):=by
 rw[Ac];refine⟨kp _ _,λ b h=>?_⟩;obtain⟨u,_,rfl⟩:=uR.1 h;rfl
def kj (c k:Nat):List Int:=List.replicate k (-1)++List.replicate (c-k) 0
theorem FM {c k:Nat}(h:k<=c):(kj c k).length=c:=by simp[kj];omega
theorem N9 {c k:Nat}(h:k<c):(kj c k).set k (-1)=kj c (k+1):=by
 have e:c-k=(c-(k+1))+1:=xA;rw[kj,e,zS,Cu,yH,if_neg xA,jK,kX,kj,List.replicate_succ',qG];rfl
theorem N8 {c k:Nat}(h:k<c):∃x,(kj c k)[k]? =some x:=ak (by rw[FM xA];exact h)
theorem N7 (c:Nat):kj c c=ea c []:=by rw[Rg,kj,jK];simp
theorem Oa (c:Nat):(kj c 0).map D.int=List.replicate c (D.int 0):=by simp[kj]
theorem AO (a:Lv)(hw:wide a):ah Tryz.prog 111 [lvD a] (.tup [aj ((ep a.2.1).getD []), .bool (ep a.2.1).isSome]):=by
 obtain⟨m,Z,J,I⟩:=a;have K:∀y,y∈Z->y.length*8<=140737488351232:=λ y Y=>by have:=hw y Y;omega
 refine kE Tryz.func111 ?_;intro H B X w0;have h1:=cO 0 1 H rfl rfl;rw[uC]at h1;dsimp only at h1;refine ac kO aa aa ?_;refine aq (λ(i:Nat)=>i<=Z.length/\i<=257/\tot (Z.take i)<=512+17592186043904) (λ i=>[(1, .ptr 1 0 0 0),(4, .int (tot (Z.take i))),(5, .int i)]) (λ i=>[(1, .cells [.int m, .d (am Z), .d (aw J), .d (am I)])]) (λ i=>Z.length-i) 0 ?_ ?_ ?_
 ·exact⟨uF _,xA,by simp[tot]⟩
 ·exact kN (ai @yQ.{0} @tot.eq_1) []
 ·rintro i ⟨hi1,hi2,hi3⟩;by_cases E:i<Z.length/\i<257/\tot (Z.take i)<=512
  ·obtain⟨g1,g2,q⟩:=E;obtain⟨y,Y⟩:=ak g1;have s:=K y (uA Y);have z:=sC Y;refine ac kO (ae Y) aa ?_;refine⟨i+1,?_,kN (ai z @qQ) [],?_⟩
   ·exact⟨xA,xA,xA⟩
   ·omega
  ·have M:(256<Z.length\/512<tot (Z.take i))\/(i=Z.length/\Z.length<=256/\tot Z<=512):=by
    by_cases c1:i=Z.length
    ·rw[c1,yE];omega
    ·omega
   rcases M with hno|⟨rfl,g2,q⟩
   ·have htl:=ql Z i;have R:ep Z=none:=by rw[ep,if_pos xA]
    rw[R];have h:i<Z.length\/i=Z.length:=xA;rcases h with h|h
    all_goals
     by_cases h257:i<257
     all_goals
      refine kw kO aa aa ?_
      repeat' first|exact True.intro|refine Bn.mk ?_ ?_|intro hc
      all_goals exact⟨_,rfl,rfl,ay rfl,trivial⟩
   ·rw[yE];have R:ep Z=if fq (tot Z) Z then some (ea (tot Z) Z)else none:=by rw[ep,if_neg xA]
    rw[R];generalize hc:tot Z=c at q|-;refine ac (cE (Nat.beq 43) (b:=false)) aa aa ?_;refine aq (λ(v:Nat)=>v<=c) (λ v=>[(1, .ptr 1 0 0 0),(4, .int c),(6, .ref 43 1 0 c c),(7, .int v)]) (λ v=>[(1, .cells [.int m, .d (am Z), .d (aw J), .d (am I)]),(43, .row 1 ((kj c v).map D.int))]) (λ v=>c-v) 0 ?_ ?_ ?_
    ·exact uF _
    ·exact kN (ae @Oa) []
    ·intro v hv;have A:=FM hv;rcases uD v c with h|F
     ·obtain⟨x,T⟩:=N8 h;have O:=N9 h;refine ac kO (ai T A) aa ?_;refine⟨v+1,?_,kN (ai @O.symm @yW.{0,0}) [],?_⟩
      ·omega
      ·omega
     ·have:v=c:=xA;subst this
      try dsimp only
      rw[N7];refine ac kO aa aa ?_;refine aq (λ(i:Nat)=>i<=Z.length/\fq v (Z.take i)=true) (λ i=>[(1, .ptr 1 0 0 0),(4, .int v),(6, .ref 43 1 0 v v),(8, .int i)]) (λ i=>[(1, .cells [.int m, .d (am Z), .d (aw J), .d (am I)]),(43, .row 1 ((ea v (Z.take i)).map D.int))]) (λ i=>Z.length-i) 0 ?_ ?_ ?_
      ·exact⟨uF _,by simp[fq]⟩
      ·exact kN (ae @yQ.{0}) []
      ·rintro i ⟨hi,V⟩;rcases uD i Z.length with h|F
       ·obtain⟨y,Y⟩:=ak h;have s:=K y (uA Y);refine ac kO (ae Y) aa ?_;refine aq (λ(k:Nat)=>k<=y.length/\fq v (pre Z i k)=true) (λ k=>[(1, .ptr 1 0 0 0),(4, .int v),(6, .ref 43 1 0 v v),(8, .int i),(9, .int k)]) (λ k=>[(1, .cells [.int m, .d (am Z), .d (aw J), .d (am I)]),(43, .row 1 ((ea v (pre Z i k)).map D.int))]) (λ k=>y.length-k) 0 ?_ ?_ ?_
        ·exact⟨uF _,by rw[Mj];exact V⟩
        ·exact kN (ae @Re) []
        ·rintro k ⟨hk,N⟩;rcases uD k y.length with C|hgk2
         ·obtain⟨x,T⟩:=ak C;have Q:=kp v (pre Z i k);by_cases S:0<=x/\x<v
          ·have G:=sq (v:=x.toNat) (c:=v) xA (pre Z i k);rw[show((x.toNat:Nat):Int)=x by omega]at G;by_cases hd:bz (pre Z i k) x<0
           ·have O:=Rf (c:=v) Z Y T S.1 hd;refine ac kO (aE Y T Q G) aa ?_;refine⟨k+1,?_,kN (ai @O.symm @yW.{0,0}) [],?_⟩
            ·exact⟨xA,Mk Y T N S.1 S.2 hd⟩
            ·omega
           ·have U:=B6 (c:=v) Y T (.inr (.inr xA));rw[U];refine ac kO (aE Y T Q G) aa ?_
            all_goals exact⟨_,rfl,rfl,ay rfl,trivial⟩
          ·have U:=B6 (c:=v) Y T xA;rw[U];refine kw kO (av Y T Q) aa ?_
           repeat' first|exact True.intro|refine Bn.mk ?_ ?_|intro hc
           all_goals exact⟨_,rfl,rfl,ay rfl,trivial⟩
         ·have:k=y.length:=xA;subst this;have L:=PE Y;refine ac kO (ae Y) aa ?_;refine⟨i+1,?_,kN (ae L) [],?_⟩
          ·exact⟨xA,by rw[<-L];exact N⟩
          ·omega
       ·have:i=Z.length:=xA;subst this;rw[yE]at V
        try dsimp only
        rw[yE,V];refine ac kO aa aa ?_;exact⟨_,rfl,bZ (o:=43) rfl rfl (by simp[kp]) (uE (by simp[kp])),ay rfl,trivial⟩
def n5 (a:Lv)(o:List Int):Bool:=decide (0<=a.1/\a.1<=o.length/\a.1<=64/\a.2.2.2.length<=256)&& !a.2.2.2.any iI
def ec (a:Lv):Gr×List Int×Bool:=match ep a.2.1 with
 |none=>((0,[]),[],false)
 |some o=>if n5 a o then(bT a,o.take a.1.toNat,true)else((0,[]),[],false)
def pZ (a:Lv):Bool:=(ec a).2.2&&decide ((aO (ec a).1 (ec a).2.1).2=0)&&jn (aO (ec a).1 (ec a).2.1).1 (fd a)
theorem Ju (a:Lv)(hw:wide a):ah Tryz.prog 54 [lvD a] (.tup [gD (ec a).1,aj (ec a).2.1, .bool (ec a).2.2]):=by
 have R:=AO a hw;obtain⟨m,Q,M,Z⟩:=a;dsimp only at R;have K:ec (m,Q,M,Z)=match ep Q with
  |none=>((0,[]),[],false)
  |some o=>if n5 (m,Q,M,Z) o then((m,Z.map eg),o.take m.toNat,true)else((0,[]),[],false):=rfl
 rw[K];rcases Y:ep Q with _|o
 ·rw[Y]at R;dsimp only[Option.getD_none,Option.isSome_none]at R;refine kE Tryz.func54 ?_;intro S B X w0;refine ac kO aa (ae R) ?_;refine⟨_,rfl,⟨_,_,_,_,rfl,?_⟩,rfl,ay rfl,trivial⟩;simp(disch:=omega) only[go_sem,simprocAttr,toD];rfl
 ·rw[Y]at R;dsimp only[Option.getD_some,Option.isSome_some]at R;dsimp only;have hol:o.length<=512:=by
   rw[ep]at Y;split at Y
   ·cases Y
   ·split at Y
    ·cases Y;rw[kp];omega
    ·cases Y
  refine kE Tryz.func54 ?_;intro S B X w0;have G:=cO 0 3 S rfl rfl;rw[uC]at G;dsimp only at G;refine kw kO aa (ae R) ?_
  repeat' first|exact True.intro|refine Bn.mk ?_ ?_|intro hc
  all_goals try
   rw[if_neg (by simp[n5];omega)];refine⟨_,rfl,⟨_,_,_,_,rfl,?_⟩,rfl,ay rfl,trivial⟩;simp(disch:=omega) only[go_sem,simprocAttr,toD];rfl
  obtain⟨n,rfl⟩:∃n:Nat,m=n:=⟨m.toNat,xA⟩;have q:n<=o.length:=xA;have b:n<=64:=xA;have C:Z.length<=256:=xA;have J:n5 ((n:Int),Q,M,Z) o= !Z.any iI:=by
   simp only[n5];rw[uZ xA,jZ]
  rw[J];refine aC _ (dm 7 1 901 2 rfl rfl rfl) ?_;refine aq (λ(k:Nat)=>k<=Z.length/\∀(j:Nat) y,j<k->Z[j]? =some y->iI y=false) (λ k=>[(1, .ptr 1 0 0 0),(2, .ptr 2 0 0 0),(5, .d (aj o)),(7, .ptr 7 0 0 0),(8, .int k)]) (λ k=>[(1, .cells [.int n, .d (am Q), .d (aw M), .d (am Z)]),(2, .cells [.int 0, .nilS]),(7, .cells [.int n, .ref 901 2 0 k k]),(901, .row 2 (((Z.take k).map eg).map bo))]) (λ k=>Z.length-k) 0 ?_ ?_ ?_
  ·exact⟨uF _,λ j y h=>xA⟩
  ·exact kN (ai @yQ.{0} @uY.{0,0}) []
  ·rintro k ⟨hk,T⟩;rcases uD k Z.length with L|z
   ·obtain⟨c,V⟩:=ak L;by_cases U:c.length<2
    ·have:Z.any iI=true:=dk V (by simpa[iI]using U);rw[this];refine ac kO (ae V) aa ?_;refine⟨_,rfl,⟨_,_,_,_,rfl,?_⟩,rfl,ay rfl,trivial⟩;simp(disch:=omega) only[go_sem,simprocAttr,toD];rfl
    ·have A:c.length<=9223372036854775807:=by have:=B0 (m:=c.map D.int) (k:=k) 0 3 S rfl rfl (by rw[uJ,V];rfl);rwa [uC]at this
     have F:=aK (r:=c) (i:=0) xA;have E:=fP (r:=c) (v:=(c.length:Int)-1) xA xA;have H:=aM V;have N:(((Z.take k).map eg).map bo).length=k:=by rw[uC,uC,yA];omega
     have I:List.take k (((Z.take k).map eg).map bo)=((Z.take k).map eg).map bo:=uE (by rw[N];exact uI _);refine ac kO (aE V F E N) aa ?_;refine⟨k+1,?_,kN (av H @uO.{0,0} I) [(901,73)],?_⟩
     ·exact⟨xA,b9 T V (by simpa[iI]using U)⟩
     ·omega
   ·have:k=Z.length:=xA;subst this;have U:Z.any iI=false:=d6 λ j y s=>T j y s
    try dsimp only
    rw[yE,U,if_pos xC];have O:((Z.map eg).map bo).length=Z.length:=xB;refine ac kO aa aa ?_;refine⟨_,rfl,⟨_,_,_,_,rfl,?_⟩,?_,ay rfl,trivial⟩
    ·simp(disch:=omega) only[go_sem,simprocAttr,toD,O,uI,qD];rw[uE (by rw[O];exact uI _)]
    ·exact dH (by rw[Ai])
theorem GQ {a:Lv}(h:(ec a).2.2=true):a.2.1.length<=256/\tot a.2.1<=512:=by
 rw[ec]at h;split at h
 ·cases h
 ·rename_i o Z;rw[ep]at Z;split at Z
  ·cases Z
  ·omega
theorem km (a:Lv)(M:wide a):ah Tryz.prog 15 [lvD a] (.bool (pZ a)):=by
 have Y:=Ju a M;have U:=GH (ec a).1 (ec a).2.1;have V:=ya (aO (ec a).1 (ec a).2.1).1 (fd a);rcases h:(ec a).2.2 with _|_
 ·rw[h]at Y;rw[pZ,h];refine kE Tryz.func15 ?_;intro Z B X O;refine ac kO aa (ae Y) ?_;exact ay rfl
 ·rw[h]at Y;rw[pZ,h];obtain⟨K,J⟩:=GQ h;have Q:=Pu a xA (λ y L=>by have:=cV L;omega);generalize ec a=S at*;generalize aO S.1 S.2.1=N at*;obtain⟨b,e⟩:=N;dsimp only at U V|-;by_cases T:e=0
  ·subst T;rcases R:jn b (fd a)with _|_<;>rw[R]at V
   all_goals
    refine kE Tryz.func15 ?_;intro Z B X O;refine ac kO aa (aE Y U Q V) ?_;exact ay rfl
  ·refine kE Tryz.func15 ?_;intro Z B X O;refine ac kO (ae T) (aE Y U Q V) ?_;refine ay ?_;simp[T]
end Go.Proofs.YtjjbhjnpeenbkaaGreatDoor
namespace Go.Proofs.YtjjbhjnpeenbkaaGreatDoor
open Go Go.PS Go.Proofs
theorem oJ :∀{l m:List Int},l.Nodup->(∀x,x∈l->x∈m)->l.length<=m.length
 |[],m,_,_=>uF _
 |x::l,m,U,Y=>by
  have X:x∈m:=Y x xB;have T:=kU X;have S:0<m.length:=zU X;have h:=qI.1 U;have:=oJ (l:=l) (m:=m.erase x) h.2 (λ y V=>by
   have Z:y≠x:=λ e=>h.1 (e▸V)
   exact(Ad Z).2 (Y y (uP _ V)))
  simp only[uV];omega
def below (c:Nat):List Int:=(List.range c).map λ n:Nat=>(n:Int)
theorem B8 (c:Nat):(below c).length=c:=by simp[below]
theorem s8 {c:Nat}{v:Int}:v∈below c↔0<=v/\v<c:=by
 simp only[below,uR,yD];constructor
 ·rintro⟨n,h,rfl⟩;omega
 ·intro h;exact⟨v.toNat,xA,xA⟩
theorem J7 (c:Nat):(below c).Nodup:=by
 refine List.Pairwise.map _ ?_ (zI (n:=c));intro a b h;omega
theorem Oh {c:Nat}{l:List Int}(U:l.Nodup)(V:∀v,v∈l->0<=v/\v<c)(T:l.length=c)(v:Int)(Y:0<=v)(X:v<c):v∈l:=by
 by_cases h:v∈l
 ·exact h
 ·have:=oJ (l:=v::l) (m:=below c) (qI.2 ⟨h,U⟩) (λ x Z=>by
   rcases yI.1 Z with rfl|Z
   ·exact s8.2 ⟨Y,X⟩
   ·exact s8.2 (V x Z))
  rw[B8,uV]at this;omega
theorem pN {A:List Int}{k:Nat}{v:Int}:v∈bY A k↔0<=v/\A[v.toNat]? =some (k:Int):=by
 simp only[bY,uR,Ay,yD,uG];constructor
 ·rintro⟨n,⟨Z,h⟩,rfl⟩;exact⟨xA,by rw[uK];exact h⟩
 ·rintro⟨Z,h⟩;exact⟨v.toNat,⟨(uB.1 h).1,h⟩,xA⟩
theorem M5 (A:List Int)(k:Nat):(bY A k).Pairwise (·<·):=by
 refine List.Pairwise.map (R:=(·<·)) _ ?_ ((zB (n:=A.length)).filter _);intro a b h;omega
theorem E6 {A:List Int}{M k:Nat}(h:k<M):(dq A M)[k]? =some (bY A k):=by simp[dq,h]
section layers
variable {A:List Int}{M:Nat}
theorem wU (Y:∀n:Nat,n<A.length->0<=at0 A n/\at0 A n<M){v:Int}:v∈(dq A M).flatten↔0<=v/\v<A.length:=by
 simp only[dq,zX,uR,yD];constructor
 ·rintro⟨y,⟨k,U,rfl⟩,X⟩;obtain⟨h,Z⟩:=pN.1 X;have:=(uB.1 Z).1;omega
 ·rintro⟨h,Z⟩;have V:=Y v.toNat xA;refine⟨_,⟨(at0 A v.toNat).toNat,xA,rfl⟩,pN.2 ⟨h,?_⟩⟩;rw[aK xA]
  congr 1;omega
theorem wV :(dq A M).flatten.Nodup:=by
 refine jO.2 ⟨λ y Z=>?_,?_⟩
 ·obtain⟨k,_,rfl⟩:=uR.1 Z;exact(M5 A k).imp (λ h=>xA)
 ·refine List.Pairwise.map _ ?_ (zB (n:=M));intro a b h x X y Z e;subst e;have Y:=(pN.1 X).2;rw[(pN.1 Z).2,yM]at Y;omega
theorem Nh (Z:∀n:Nat,n<A.length->0<=at0 A n/\at0 A n<M):tot (dq A M)=A.length:=by
 rw[<-sB];have Y:=oJ (l:=(dq A M).flatten) (m:=below A.length) wV (λ x h=>s8.2 ((wU Z).1 h));have X:=oJ (l:=below A.length) (m:=(dq A M).flatten) (J7 _) (λ x h=>(wU Z).2 (s8.1 h));rw[B8]at Y X;omega
theorem E7 (V:∀n:Nat,n<A.length->0<=at0 A n/\at0 A n<M){n:Nat}(h:n<A.length):bz (dq A M) n=at0 A n:=by
 have R:=V n h;have U:(dq A M)[(at0 A n).toNat]? =some (bY A (at0 A n).toNat):=E6 xA;have T:((n:Nat):Int)∈bY A (at0 A n).toNat:=pN.2 ⟨xA,by rw[uK,aK h];congr 1;omega⟩;rw[bz,jc U (gW.2 ⟨_,T,xB⟩)]
 ·show(((at0 A n).toNat:Nat):Int)=_;omega
 ·intro j y Q Y;rw[E6 xA]at Y;cases Y;rw[qH];intro x S Z;have:x=n:=by simpa using Z
  subst this;have X:=(pN.1 S).2;rw[uK,aK h,yM]at X;omega
theorem Nf (h:∀n:Nat,n<A.length->0<=at0 A n/\at0 A n<M):fq A.length (dq A M)=true:=by
 rw[ms];exact⟨λ v Z=>(wU h).1 Z,wV⟩
theorem Ng (Z:∀n:Nat,n<A.length->0<=at0 A n/\at0 A n<M):ea A.length (dq A M)=A:=by
 refine yX λ u=>?_
 by_cases h:u<A.length
 ·rw[sq h,E7 Z h,aK h]
 ·rw[uL (by rw[kp];omega),uL xA]
end layers
theorem ut (ls:List (List Int)):(ls.map bh).flatten.Perm ls.flatten:=by
 induction ls with
 |nil=>exact .refl _
 |cons y ls Z=>simp only[uS,Bf];exact(n0 y).append Z
theorem SL (ls:List (List Int)):tot (ls.map bh)=tot ls:=by
 rw[<-sB,<-sB];exact(ut ls).length_eq
theorem y6 (ls:List (List Int))(v:Int):bz (ls.map bh) v=bz ls v:=by
 rw[bz,bz,List.findIdx?_map]
 congr 2
 funext y
 show(bh y).any _=y.any _;rw[qW,gW,gW];constructor
 ·rintro⟨x,h,Z⟩;exact⟨x,(n0 y).mem_iff.1 h,Z⟩
 ·rintro⟨x,h,Z⟩;exact⟨x,(n0 y).mem_iff.2 h,Z⟩
theorem SI (c:Nat)(ls:List (List Int)):fq c (ls.map bh)=fq c ls:=by
 rw[qW,ms,ms,(ut ls).nodup_iff];constructor
 ·rintro⟨h,Z⟩;exact⟨λ v Y=>h v ((ut ls).mem_iff.2 Y),Z⟩
 ·rintro⟨h,Z⟩;exact⟨λ v Y=>h v ((ut ls).mem_iff.1 Y),Z⟩
theorem SK (c:Nat)(ls:List (List Int)):ea c (ls.map bh)=ea c ls:=by simp only[ea,y6]
theorem SJ (ls:List (List Int)):ep (ls.map bh)=ep ls:=by
 rw[ep,ep,uC,SL,SI,SK]
def lP (g:Gr)(r:List Int):Nat:=if g.1=0 then 0 else(eS r (r.length-1)+1).toNat
structure Built (g:Gr)(r:List Int):Prop where
 eq:aO g r=(ki g r,0)
 gok:gOk g=true
 len:(r.length:Int)=g.1
 rk:∀v:Nat,0<=at0 r v/\at0 r v<=255
 loop:∀a,a∈g.2->a.1≠a.2
 gap:∀(k:Nat) a,g.2[k]? =some a->0<=at0 r a.2-at0 r a.1-1
 big:g.1+cf r g.2 g.2.length<=512
theorem built {g:Gr}{r:List Int}(h:(aO g r).2=0):Built g r:=by
 rw[aO]at h;split at h
 ·cases h
 ·rename_i Z;have Z:iC g r=true:=by simpa using Z
  obtain⟨U,T,Q,S⟩:=ud Z;split at h
  ·cases h
  ·rename_i X;split at h
   ·cases h
   ·rename_i V;split at h
    ·cases h
    ·rename_i R;refine⟨?_,U,T,S,λ a Y=>?_,λ k a Y=>?_,xA⟩
     ·rw[aO,Z,if_neg xC,if_neg X,if_neg V,if_neg R]
     ·have:=qH.1 (Cg.2 X) a Y;simpa[g8]using this
     ·have:=qH.1 (Cg.2 V) a (uA Y);rw[ff,uG]at this;omega
theorem w6 (g:Gr)(r:List Int):(ki g r).2.1=dq (aX r g.2 g.2.length) (lP g r):=by
 rw[ki,lP];split
 ·rfl
 ·rfl
theorem JW {l:List Int}{P:Int->Prop}(h:∀x,x∈l->P x)(n:Nat)(Z:n<l.length):P (at0 l n):=h _ (uA (aK Z))
namespace Built
variable {g:Gr}{r:List Int}
theorem ends (b:Built g r){k:Nat}{a:Arc}(h:g.2[k]? =some a):0<=a.1/\a.1<g.1/\0<=a.2/\a.2<g.1:=(rx b.gok).2.2.2 k a h
theorem high (b:Built g r)(X:0<r.length):(lP g r:Int)=eS r (r.length-1)+1:=by
 have h:=pP r (r.length-1) 0 xA;have Z:=b.rk 0;have Y:=b.len;rw[lP,if_neg xA];omega
theorem high_le (b:Built g r):lP g r<=256:=by
 have h:=tI (λ j=>(b.rk j).2) (r.length-1);rw[lP];split<;>omega
theorem rk_lt (b:Built g r){n:Nat}(h:n<r.length):at0 r n<lP g r:=by
 have:=pP r (r.length-1) n xA;rw[b.high xA];omega
theorem vals (b:Built g r):∀n:Nat,n<(aX r g.2 g.2.length).length->0<=at0 (aX r g.2 g.2.length) n/\at0 (aX r g.2 g.2.length) n<lP g r:=by
 refine λ n S=>JW (P:=λ x=>0<=x/\x<lP g r) ?_ n S
 intro x h;rw[aX,yE,yP]at h;rcases h with h|h
 ·obtain⟨k,Z⟩:=qA h;have Y:=(uB.1 Z).1;rw[aK Y]at Z;cases Z;exact⟨(b.rk k).1,b.rk_lt Y⟩
 ·obtain⟨a,U,h⟩:=zJ.1 h;obtain⟨k,Z⟩:=qA U;have R:=b.ends Z;have Q:=b.gap k a Z;have O:=b.len;have X:=b.rk a.1.toNat;have V:=b.rk_lt (n:=a.2.toNat) xA;rw[show((a.1.toNat:Nat):Int)=a.1 by omega]at X;rw[show((a.2.toNat:Nat):Int)=a.2 by omega]at V;simp only[aJ,uR,yD]at h;obtain⟨j,T,rfl⟩:=h;rw[bc]at T;omega
theorem all_len (b:Built g r):(aX r g.2 g.2.length).length<=512:=by
 have h:=sW b.gap g.2.length (uI _);have Z:=b.len;have Y:=b.big;omega
theorem all_ge (b:Built g r):r.length<=(aX r g.2 g.2.length).length:=by simp[aX]
theorem all_take (b:Built g r):(aX r g.2 g.2.length).take r.length=r:=by simp[aX]
theorem ranks (b:Built g r):ep (ki g r).2.1=some (aX r g.2 g.2.length):=by
 have h:=b.vals;have Z:=b.all_len;rw[w6,ep,wT,Nh h,if_neg (by have:=b.high_le;omega),Nf h,if_pos rfl,Ng h]
end Built
theorem qm {a:Lv}(h:aH a=true):ld a=true/\a.2.2.2.any iI=false/\mo a=true/\(aO (bT a) (cd a)).2=0/\fd a=(aO (bT a) (cd a)).1:=by
 simp only[aH,uN,yL,uG,qb]at h;obtain⟨⟨⟨⟨Z,Y⟩,X⟩,V⟩,U⟩:=h;exact⟨Z,Y,X,V,U⟩
theorem oX {a:Lv}(h:aH a=true):Built (bT a) (cd a)/\fd a=ki (bT a) (cd a)/\ep a.2.1=some (aX (cd a) (bT a).2 (bT a).2.length):=by
 obtain⟨X,V,U,Y,Z⟩:=qm h;have b:=built Y;rw[b.eq]at Z;refine⟨b,Z,?_⟩;rw[<-SJ];have:a.2.1.map bh=(ki (bT a) (cd a)).2.1:=gL (λ x:Lv=>x.2.1) Z;rw[this,b.ranks]
theorem IP {a:Lv}(h:aH a=true):ec a=(bT a,cd a,true):=by
 obtain⟨Z,Y,T,S,R⟩:=qm h;obtain⟨b,O,V⟩:=oX h;simp only[ld,uG]at Z;have Q:=b.len;have X:=b.all_ge;have U:(bT a).1=a.1:=rfl;rw[ec,V];dsimp only;rw[if_pos]
 ·have:=b.all_take;rw[show a.1.toNat=(cd a).length by omega,this]
 ·simp only[n5,uN,uG,Y,Cf,Dv];omega
theorem SP {a:Lv}(h:(ec a).2.2=true):∃o,ep a.2.1=some o/\n5 a o=true/\ec a=(bT a,o.take a.1.toNat,true):=by
 rw[ec]at h|-;split at h
 ·cases h
 ·rename_i o Y;split at h
  ·rename_i Z;refine⟨o,Y,Z,?_⟩;rw[if_pos Z]
  ·cases h
theorem p7 {ls:List (List Int)}{o:List Int}(h:ep ls=some o):ls.length<=256/\tot ls<=512/\fq (tot ls) ls=true/\o=ea (tot ls) ls:=by
 rw[ep]at h;split at h
 ·cases h
 ·split at h
  ·cases h;exact⟨xA,xA,by assumption,rfl⟩
  ·cases h
theorem Mh {ls:List (List Int)}(h:fq (tot ls) ls=true){v:Int}(Z:0<=v)(Y:v<tot ls):0<=bz ls v:=by
 rw[ms]at h;exact lT.2 (Oh h.2 h.1 (sB ls) v Z Y)
theorem kt (a:Lv):aH a=pZ a:=by
 rw[qW];constructor
 ·intro h;have N:=IP h;obtain⟨S,Y,X,R,Q⟩:=qm h;rw[pZ,N];simp only[R,Q,jZ,qb,Co,Dc]
 ·intro h;simp only[pZ,uN,uG,qb]at h;obtain⟨⟨S,Y⟩,X⟩:=h;obtain⟨o,O,Z,T⟩:=SP S;obtain⟨F,E,K,rfl⟩:=p7 O;simp only[n5,uN,uG,yL,kp]at Z;obtain⟨⟨J,I,H,G⟩,s⟩:=Z;have U:(ea (tot a.2.1) a.2.1).take a.1.toNat=cd a:=by
   rw[ea,<-Ai,List.take_range,jF xA,cd]
  rw[T,U]at Y X;dsimp only at Y X;have V:mo a=true:=by
   rw[mo,yL,qH];intro v L;have:=Mh K (v:=v) xA (by have:=yD.1 L;omega);simp only[oE,uG];omega
  simp only[aH,ld,s,V,Y,X,qb,uN,uG,Cf,Dv,Co];omega
end Go.Proofs.YtjjbhjnpeenbkaaGreatDoor
namespace Go.Proofs.YtjjbhjnpeenbkaaGreatDoor
open Go Go.PS Go.Proofs
set_option maxRecDepth 100000
attribute [local irreducible] ao wpG ah ax
def ye (a:Lv)(v:Int):Int:=if aH a then bz a.2.1 v else -1
def EB (v:Int)(y:List Int):Bool:=y.any λ x=>decide (x=v)
theorem E3 (ls:List (List Int))(v:Int):bz ls v=eh (ls.findIdx? (EB v)):=rfl
theorem cF {a:Lv}(h:aH a=true):a.2.1.length<=256/\tot a.2.1<=512:=by
 have:=IP h;exact GQ (by rw[this])
theorem Qf (a:Lv)(v:Int)(I:wide a):ah Tryz.prog 41 [lvD a, .int v] (.int (ye a v)):=by
 have T:=km a I;rw[<-kt]at T;rw[ye];rcases h:aH a with _|_<;>rw[h]at T
 ·refine kE Tryz.func41 ?_;intro S B X E;refine ac kO aa (ae T) ?_;exact ap rfl
 ·obtain⟨G,F⟩:=cF h;obtain⟨n,U,N,M⟩:=a;dsimp only at G F;refine kE Tryz.func41 ?_;intro S B X E;refine ac kO aa (ae T) ?_;refine aq (λ(i:Nat)=>i<=U.length/\∀(j:Nat) y,j<i->U[j]? =some y->EB v y=false) (λ i=>[(1, .int v),(2, .ptr 2 0 0 0),(5, .int i)]) (λ i=>[(2, .cells [.int n, .d (am U), .d (aw N), .d (am M)])]) (λ i=>U.length-i) 0 ?_ ?_ ?_
  ·exact⟨uF _,λ j y h=>xA⟩
  ·exact kN aa []
  ·rintro i ⟨C,Z⟩;rcases uD i U.length with Q|K
   ·obtain⟨y,V⟩:=ak Q;have H:=cV (uA V);refine ac kO (ae V) aa ?_;refine aq (λ(k:Nat)=>k<=y.length/\∀(j:Nat) x,j<k->y[j]? =some x->decide (x=v)=false) (λ k=>[(1, .int v),(2, .ptr 2 0 0 0),(5, .int i),(6, .int k)]) (λ k=>[(2, .cells [.int n, .d (am U), .d (aw N), .d (am M)])]) (λ k=>y.length-k) 0 ?_ ?_ ?_
    ·exact⟨uF _,λ j x h=>xA⟩
    ·exact kN aa []
    ·rintro k ⟨z,Y⟩;rcases uD k y.length with R|J
     ·obtain⟨x,O⟩:=ak R;refine kw kO (ai V O) aa ?_
      repeat' first|exact True.intro|refine Bn.mk ?_ ?_|intro L
      ·refine ap ?_;rw[E3,jc V (dk O (by simpa using L)) Z];rfl
      ·refine⟨k+1,?_,eL [] _ _ (by refine⟨?_,?_⟩<;>(repeat' first|exact fmn|refine fmc ⟨(by first|rfl|(simp(disch:=omega) only[go_sem,simprocAttr,inL];first|done|omega|(congr 1;done))),?_⟩);done),?_⟩
       ·exact⟨xA,b9 Y O (by simpa using L)⟩
       ·omega
     ·refine ac kO (ae V) aa ?_;refine⟨i+1,?_,kN aa [],?_⟩
      ·exact⟨xA,b9 Z V (d6 λ j x A=>Y j x xA)⟩
      ·omega
   ·refine ac kO aa aa ?_;refine ap ?_;rw[E3,ka (λ j y V=>Z j y (by have:=(uB.1 V).1;omega) V)];rfl
end Go.Proofs.YtjjbhjnpeenbkaaGreatDoor
