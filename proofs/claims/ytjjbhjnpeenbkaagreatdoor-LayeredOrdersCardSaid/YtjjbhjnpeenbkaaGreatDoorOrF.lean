/- Ordering: the reference. -/
import Derived.Test.YtjjbhjnpeenbkaaGreatDoorOrB
import Derived.Test.YtjjbhjnpeenbkaaGreatDoorC
set_option linter.unusedSimpArgs false
set_option linter.unusedVariables false
set_option maxHeartbeats 16000000
namespace Go.Proofs.YtjjbhjnpeenbkaaGreatDoor
open Go Go.PS Go.Proofs
open Go.Bd (sm aI Part)
set_option maxRecDepth 100000
attribute [local irreducible] ao wpG ah ax
theorem OF (y:List Int)(o:List Nat)(O:Part y.length 0 o)(J:y.length<=1000):ah Tryz.prog 193 [aj y,br o] (aj (aW y o)):=by
 have K:=O.len;refine kE Tryz.func193 ?_;intro M B X H
 repeat' first|refine bt rfl ?_|refine aV ?_|refine dA (Nat.beq 7) ck ?_|(refine bB rfl rfl (λ V=>?_) (λ V=>?_)<;>try simp only[hcL]at V)|(refine bA _ rfl rfl (λ V=>?_) (λ V=>?_)<;>(try simp only[hcL]at V)<;>try omega)|simp(disch:=omega) only[go_sem,simprocAttr]|apply And.intro|omega|decide+kernel
 refine aq (λ(k:Nat)=>k<=o.length) (λ k=>[(0, .d (aj y)),(1, .d (br o)),(5, .ref 901 1 0 k k),(6, .int k)]) (λ k=>[(901, .row 1 (((aW y o).take k).map D.int))]) (λ k=>o.length-k) 0 ?_ ?_ ?_
 ·exact uF _
 ·exact kN (ai @yQ.{0} @uY.{0,0}) [(901,7)]
 ·intro k I;have Z:((aW y o).take k).length=k:=by rw[yA,pX];omega
  have Y:(((aW y o).take k).map D.int).take k=((aW y o).take k).map D.int:=uE (by rw[uC,Z];exact uI _);rcases uD k o.length with U|L
  ·obtain⟨q,T⟩:=ak U;have S:=O.lt q (uA T);have Q:y[q]? =some (yG y q):=by rw[yG,uT S];rfl
   have N:(aW y o).take (k+1)=(aW y o).take k++[yG y q]:=aM (by rw[aW,uJ,T];rfl);generalize(aW y o).take k=R at*;refine ac kO (aE T Q Z Y) aa ?_;refine⟨k+1,?_,kN (aQ N Y @uO.{0,0} @uS.{0,0} @uY.{0,0}) [(901,23)],?_⟩
   ·omega
   ·omega
  ·have:k=o.length:=xA;subst this;have h:(aW y o).take o.length=aW y o:=uE (by rw[pX];exact uI _);rw[h]at Z Y;rw[h];refine ac kO aa aa ?_;exact bZ (o:=901) rfl rfl (by simp[Z]) Y
theorem T5 (a:Lv)(i:Nat)(z:List Int)(Z:aH a=true)(X:z.length<=1000)(Y:i<a.2.1.length):
  ah Tryz.prog 191 [lvD a, .int i,aj z] (lvD (dG a i z)):=by
 obtain⟨V,U,s⟩:=kh Z;obtain⟨T,S⟩:=cF Z;refine IY a i z (a.2.1.set i z) yJ (λ k x h=>?_) xA (λ x h=>by have:=cV h;omega) xA xA xA (λ x h=>by have:=s x h;omega);rw[qF];by_cases c:i=k
 ·subst c;rw[if_pos rfl,if_pos Y,if_pos rfl]
 ·rw[if_neg c,h,if_neg xA]
theorem T4 (a:Lv)(Z:aH a=true):ah Tryz.prog 191 [lvD a, .int (-1),aj []] (lvD a):=by
 obtain⟨Y,X,s⟩:=kh Z;obtain⟨V,U⟩:=cF Z;exact IY a (-1) [] a.2.1 rfl (λ k x h=>by rw[h,if_neg xA]) xA (λ x h=>by have:=cV h;omega) xC xA xA (λ x h=>by have:=s x h;omega)
theorem Mu (a:Lv)(i:Nat)(hw:wide a)(hv:aH a=true)(M:a.2.2.1.length<=700)(U:i<a.2.1.length):
  ah Tryz.prog 192 [lvD a, .int i] (.tup [br (cY a i).1, .bool (cY a i).2]):=by
 obtain⟨y,V⟩:=ak U;have hyl:=cV (uA V);obtain⟨t1,t2⟩:=cF hv;rw[cY,cT V];by_cases Q:8<y.length
 ·rw[if_pos Q];obtain⟨n,ls,ar,cs⟩:=a;dsimp only at*;refine kE Tryz.func192 ?_;intro L B X w0;refine ac kO (ae V) aa ?_;exact⟨_,rfl,dH rfl,ay rfl,trivial⟩
 ·rw[if_neg Q];have h2:=Ou a i hw hv U;have Z:=F1 (i:=i) M (by rw[cT V];exact Q);have s:=P6 (orM a i);rw[if_pos Z]at s;obtain⟨R,Y⟩:=rU Z;have h:=xH a i;rw[cT V]at h;have hbb:0<=(df (orM a i)).2/\(df (orM a i)).2<=64000000:=by
   obtain⟨C,z,_⟩:=Go.Bd.best_bounds R.small Y (oN _) (q7 (orM a i));exact⟨C,z⟩
  have T:nE (orM a i) (orM a i).length=aI (au (orM a i)) (List.range (orM a i).length):=by
   rw[nE,Go.Bd.sumC_range]
  rw[mY,cT V,<-h,<-T];have J:=Oo R Y;have K:=FT R;have hS:∀A,nE (orM a i) (A+1)=nE (orM a i) A+sm (λ j=>au (orM a i) A (A+1+j)) ((orM a i).length-1-A):=λ _=>rfl
  have O:nE (orM a i) 0=0:=rfl;generalize orM a i=m at*;generalize nE m=S at*;generalize df m=BB at*;obtain⟨p,F⟩:=BB;obtain⟨n,ls,ar,cs⟩:=a;dsimp only at*;obtain⟨N,hN⟩:∃N,N=m.length:=⟨_,rfl⟩;rw[<-hN]at h hS Y|-;refine kE Tryz.func192 ?_;intro L B X w0;refine ac kO (ai V h.symm) (ae h2) ?_;refine aq (λ(u:Nat)=>u<=N) (λ u=>[(6, .int N),(7, .d (am m)),(8, .int (S u)),(9, .int u)]) (λ u=>[]) (λ u=>N-u) 0 ?_ ?_ ?_
  ·exact uF _
  ·exact kN (ae O) []
  ·intro u hu;have b1:=J u;rcases uD u N with hlt|hge
   ·have e1:=hS u;refine ac kO aa aa ?_;refine aq (λ(b:Nat)=>b<=N-1-u) (λ b=>[(6, .int N),(7, .d (am m)),(8, .int (S u+sm (λ j=>au m u (u+1+j)) b)),(9, .int u),(10, .int (u+1+b:Nat))]) (λ b=>[]) (λ b=>N-b) 0 ?_ ?_ ?_
    ·exact uF _
    ·have z0:sm (λ j=>au m u (u+1+j)) 0=0:=rfl;have z1:((u+1+0:Nat):Int)=(u:Int)+1:=xA;exact kN (av z0 z1 @jM) []
    ·intro b hb;have b2:=K u b;rcases uD b (N-1-u)with hlb|hgb
     ·obtain⟨q,hq,hql,H,C,z⟩:=R.get (b:=u) (a:=u+1+b) xA xA;have e2:sm (λ j=>au m u (u+1+j)) (b+1)=sm (λ j=>au m u (u+1+j)) b+au m u (u+1+b):=rfl;have E:((u+1+b:Nat):Int)+1=((u+1+(b+1):Nat):Int):=xA;have I:u+1+b<q.length:=xA;generalize sm (λ j=>au m u (u+1+j))=SM at*;generalize G:u+1+b=ub at*;refine ac kO (aE hq H I E) aa ?_;refine⟨b+1,?_,kN (aE e2 E G @kH) [],?_⟩
      ·omega
      ·omega
     ·have:b=N-1-u:=xA;subst this;have e4:u+1+(N-1-u)=N:=xA;rw[e4];refine ac kO aa aa ?_;refine⟨u+1,?_,kN (ae e1) [],?_⟩
      ·omega
      ·omega
   ·have:u=N:=xA;subst this;refine ac kO aa (ae s) ?_;refine⟨_,rfl,dH rfl,ay ?_,trivial⟩;rw[qW]
theorem Qh (a:Lv)(hw:wide a)(A:a.2.2.1.length<=700):ah Tryz.prog 138 [lvD a] (lvD (if aH a then dt a else lv0)):=by
 have N:=km a hw;rw[<-kt]at N;rcases H:aH a with _|_<;>rw[H]at N
 ·rw[if_neg xC];refine kE Tryz.func138 ?_;intro z B X w0;refine ac kO aa (ae N) ?_;refine⟨_,_,_,_,rfl,?_⟩;simp(disch:=omega) only[go_sem,simprocAttr,toD];rfl
 ·rw[if_pos rfl];obtain⟨t1,t2⟩:=cF H;have h2:=T4 a H;have E:=Kin.refl H hw;have K:∀(b:Lv) (i:Nat),Kin a b->i<a.2.1.length->ah Tryz.prog 192 [lvD b, .int i] (.tup [br (cY b i).1, .bool (cY b i).2]):=λ b i h U=>Mu b i h.wd h.ok (by rw[h.arcs];exact A) (by rw[h.len];exact U)
  have Q:∀(b:Lv) (i:Nat),Kin a b->i<a.2.1.length->(aF b.2.1 i).length<=512:=λ b i h U=>by
   have hb2:=(cF h.ok).2;have:=cV (uA (h.lay U));omega
  have J:∀(b:Lv) (i:Nat),Kin a b->i<a.2.1.length->(cY b i).2=true->ah Tryz.prog 193 [aj (aF b.2.1 i),br (cY b i).1] (aj (aW (aF b.2.1 i) (df (orM b i)).1)):=λ b i h U V=>by
   have hy:=q9 V;have e:(cY b i).1=(df (orM b i)).1:=by rw[cY,if_neg hy.1]
   rw[e];exact OF _ _ (rW b i) (by have:=Q b i h U;omega)
  have I:∀(b:Lv) (i:Nat),Kin a b->i<a.2.1.length->ah Tryz.prog 191 [lvD b, .int i,aj (aW (aF b.2.1 i) (df (orM b i)).1)] (lvD (i6 b i)):=λ b i h U=>
   T5 b i _ h.ok (by rw[pX];have:=(rW b i).len;have:=Q b i h U;omega) (by rw[h.len];exact U)
  obtain⟨M,hM⟩:∃M,M=fJ a 0:=⟨_,rfl⟩;rw[dt,<-hM];generalize hR:cU M a 0=R;obtain⟨L,hL⟩:∃L,L=a.2.1.length:=⟨_,rfl⟩;rw[<-hL]at K J I t1;clear Q;refine kE Tryz.func138 ?_;intro z B X w0;refine ac kO (ae @uY.{0,0}) (ai N h2) ?_;refine aq (λ(q:Nat×Lv×Nat)=>match q with|(f,b,i)=>Kin a b/\fJ b i<=f/\i<=L/\cU f b i=R) (λ(f,b,i)=>[(2, .ptr 2 0 0 0),(3, .ptr 3 0 0 0),(4, .int i)]) (λ(f,b,i)=>[(2, .cells [.int 0, .nilS, .nilS, .nilS]),(3, .cells [.int b.1, .d (am b.2.1), .d (aw b.2.2.1), .d (am b.2.2.2)])]) (λ(f,b,i)=>f) (M,a,0) ?_ ?_ ?_
  ·exact⟨E,Nat.le_of_eq hM.symm,uF _,hR⟩
  ·exact kN aa []
  ·rintro⟨f,b,i⟩ ⟨T,s,U,Z⟩;dsimp only at T s U Z|-;have Y:b.2.1.length=L:=by rw[T.len,hL]
   rcases uD i L with S|hge
   ·have hf:0<f:=by
     have:fJ b i=(bG b).toNat*(b.2.1.length+1)+(b.2.1.length-i):=rfl;omega
    obtain⟨f,rfl⟩:∃g,f=g+1:=⟨f-1,xA⟩;rw[cU,if_pos xA]at Z;have O:=K b i T S;rcases V:(cY b i).2 with _|_
    ·rw[V]at O;rw[V,if_neg xC]at Z;have hs:=xl (b:=b) (i:=i) xA;clear K J I;obtain⟨n,ls,G,F⟩:=b;dsimp only at Y V O|-;refine ac kO (ae Y) (ae O) ?_;refine⟨(f,(n,ls,G,F),i+1),?_,kN (ai @qQ @gN) [],?_⟩
     ·exact⟨T,by dsimp only;omega,S,Z⟩
     ·exact Cm _
    ·have c2:=J b i T S V;have c3:=I b i T S;have hg:=T.lay (k:=i) xA;rw[V]at O;rw[V,if_pos rfl]at Z;have hs:=xj T xA (q9 V).2;have C:=s9 T (i:=i) xA;clear K J I;generalize i6 b i=P at*;generalize aW (aF b.2.1 i) (df (orM b i)).1=py at*;generalize aF b.2.1 i=y at*;obtain⟨n,ls,G,F⟩:=b;dsimp only at Y V O c2 c3 hg|-;refine ac kO (ai Y hg) (av O c2 c3) ?_;refine⟨(f,P,0),?_,kN aa [],?_⟩
     ·exact⟨C,by dsimp only;omega,uF _,Z⟩
     ·exact Cm _
   ·rw[yh xA]at Z;subst Z;obtain⟨n,ls,G,F⟩:=b;dsimp only at Y|-;refine ac kO (ae Y) aa ?_;refine⟨_,_,_,_,rfl,?_⟩;simp(disch:=omega) only[go_sem,simprocAttr,toD]
theorem QY (a:Lv)(r:Int)(M:wide a)(S:a.2.2.1.length<=700):ah Tryz.prog 82 [lvD a, .int r] (.tup [lvD (jj a r).1, .int (jj a r).2.1, .int (jj a r).2.2]):=by
 have T:=km a M;rw[<-kt]at T;rw[jj];by_cases Z:aH a=true/\0<=r/\r<=100
 ·rw[if_pos Z];obtain⟨U,E,C⟩:=Z;rw[U]at T;obtain⟨t1,t2⟩:=cF U;have O:=Qj a r M S;have N:jm r=r.toNat:=by rw[jm];omega
  rw[mZ,if_pos U,N]at O;have Y:=ra U M r.toNat;have L:=Qh (bQ a r.toNat) Y.wd (by rw[Y.arcs];exact S);rw[if_pos Y.ok]at L;have V:=(GY Y.ok Y.wd).1;have K:=GR (dt (bQ a r.toNat)) V.wd (by rw[V.len,Y.len];omega);rw[<-Iz]at K;dsimp only at O|-;generalize dt (bQ a r.toNat)=Q at*;generalize bQ a r.toNat=P at*;generalize bG P=tp at*;generalize bG Q=tq at*;clear Y V;obtain⟨b,A,I,G⟩:=Q;obtain⟨n2,z,H,F⟩:=P;refine kE Tryz.func82 ?_;intro R B X J;refine ac kO aa (aE T O L K) ?_;refine⟨_,rfl,⟨_,_,_,_,rfl,?_⟩,ap rfl,ap rfl,trivial⟩;simp(disch:=omega) only[go_sem,simprocAttr,toD]
 ·rw[if_neg Z];rcases U:aH a with _|_<;>rw[U]at T
  ·refine kE Tryz.func82 ?_;intro R B X J;refine ac kO aa (ae T) ?_;refine⟨_,rfl,⟨_,_,_,_,rfl,?_⟩,ap rfl,ap rfl,trivial⟩;simp(disch:=omega) only[go_sem,simprocAttr,toD];rfl
  ·have q:¬(0<=r/\r<=100):=λ h=>Z ⟨U,h⟩
   refine kE Tryz.func82 ?_;intro R B X J;refine kw kO aa (ae T) ?_
   repeat' first|exact True.intro|refine Bn.mk ?_ ?_|intro s
   all_goals
    refine⟨_,rfl,⟨_,_,_,_,rfl,?_⟩,ap rfl,ap rfl,trivial⟩;simp(disch:=omega) only[go_sem,simprocAttr,toD];rfl
end Go.Proofs.YtjjbhjnpeenbkaaGreatDoor
namespace Go.Proofs.YtjjbhjnpeenbkaaGreatDoor
open Go Go.PS Go.Proofs
set_option maxRecDepth 100000
attribute [local irreducible] ao wpG ah ax
open Go.Bd (sm aI Part)
theorem Qz {a b:Lv}(h:Kin a b):Kin a (dt b)/\bG (dt b)<=bG b/\∀j,j<a.2.1.length->(cY (dt b) j).2=false:=
 uf _ b 0 h (uI _) (uF _) (λ j Z=>absurd Z (zF j))
end Go.Proofs.YtjjbhjnpeenbkaaGreatDoor
