/- Levels: where a vertex lies, sorted layers. -/
import Derived.Test.YtjjbhjnpeenbkaaGreatDoorC
import Derived.Test.YtjjbhjnpeenbkaaGreatDoorA
set_option linter.unusedSimpArgs false
set_option linter.unusedVariables false
set_option maxHeartbeats 16000000
namespace Go.Proofs.YtjjbhjnpeenbkaaGreatDoor
open Go Go.PS Go.Proofs
set_option maxRecDepth 100000
attribute [local irreducible] Zad wpG Zaa Zag
def Zav (ls:List (List Int))(v:Int):Int:=ZcU (ls.findIdx? λ y=>y.any λ x=>decide (x=v))
def ZoG (ls:List (List Int))(v:Int):Int:=match ls.findIdx? (λ y=>y.any λ x=>decide (x=v))with
 |some k=>placeF ((ls[k]?).getD []) v
 |none=>-1
theorem ZtF (l:List Int)(v:Int):decide (0<=placeF l v)=l.any λ x=>decide (x=v):=Zg3 _ l
theorem ZiV (a:Lv)(v:Int):Zaa Tryz.prog 106 [lvD a, .int v] (.tup [.int (Zav a.2.1 v), .int (ZoG a.2.1 v)]):=by
 obtain⟨n,ls,ar,cs⟩:=a;refine kE Tryz.func106 ?_;intro hat B X w0;have hl:=Zcf 0 1 hat rfl rfl;rw[uC]at hl;dsimp only at hl;refine kw1 kO kc0 kc0 ?_;refine Zaf (λ(k:Nat)=>k<=ls.length/\∀(j:Nat) y,j<k->ls[j]? =some y->(y.any λ x=>decide (x=v))=false) (λ k=>[(1, .int v),(2, .ptr 2 0 0 0),(10, .d (Zae ls)),(11, .int ls.length),(12, .int k)]) (λ k=>[(2, .cells [.int n, .d (Zae ls), .d (Zaj ar), .d (Zae cs)])]) (λ k=>ls.length-k) 0 ?_ ?_ ?_
 ·exact⟨uH _,λ j y h=>by omega⟩
 ·exact kN kc0 []
 ·rintro k ⟨hk,hinv⟩;rcases uE k ls.length with hlt|hge
  ·obtain⟨p,hp⟩:=Zac hlt;have hix:=ZlA p v;have hpi:=ZtF p v;by_cases h0:0<=placeF p v
   ·rw[yD h0]at hpi;have hf:ls.findIdx? (λ y=>y.any λ x=>decide (x=v))=some k:=Zex hp hpi.symm hinv;refine kw1 kO (kc1 hp) (kc1 hix) ?_;refine⟨_,rfl,Zai ?_,Zai ?_,trivial⟩
    ·dsimp only[Zav];rw[hf];rfl
    ·dsimp only[ZoG];rw[hf];dsimp only;rw[hp];rfl
   ·rw[uV h0]at hpi;refine kw1 kO (kc1 hp) (kc1 hix) ?_;refine⟨k+1,?_,kN kc0 [],?_⟩
    ·exact⟨by omega,Zbr hinv hp hpi.symm⟩
    ·omega
  ·have hf:ls.findIdx? (λ y=>y.any λ x=>decide (x=v))=none:=Ze3 λ j y hy=>hinv j y (by have:=(uB.1 hy).1;omega) hy
   refine kw1 kO kc0 kc0 ?_;refine⟨_,rfl,Zai ?_,Zai ?_,trivial⟩
   ·dsimp only[Zav];rw[hf];rfl
   ·dsimp only[ZoG];rw[hf]
def ZcX (a:Lv):Lv:=(a.1,a.2.1.map ZaM,a.2.2.1,a.2.2.2)
theorem ZEt (a:Lv)(hn:a.2.1.length<=1000)(hl:∀y,y∈a.2.1->y.length*8<=140737488351232):Zaa Tryz.prog 108 [lvD a] (lvD (ZcX a)):=by
 obtain⟨n,ls,ar,cs⟩:=a;dsimp only at hn hl;refine kE Tryz.func108 ?_;intro hat B X w0;refine kw1 kO kc0 kc0 ?_;refine Zao _ (Zra 9 ls.length rfl) ?_;refine Zaf (λ(k:Nat)=>k<=ls.length) (λ k=>[(1, .ptr 1 0 0 0),(2, .ptr 2 0 0 0),(3, .ref 9 1 0 ls.length ls.length),(11, .d (Zae ls)),(12, .int ls.length),(13, .int k)]) (λ k=>[(1, .cells [.int n, .d (Zae ls), .d (Zaj ar), .d (Zae cs)]),(2, .cells [.int 0, .nilS, .nilS, .nilS]),(9, .row 1 (((ls.map ZaM).take k).map Zab++List.replicate (ls.length-k) (.sl [])))]) (λ k=>ls.length-k) 0 ?_ ?_ ?_
 ·exact uH _
 ·exact kN (kc4 @yX.{0} @yH.{0,0} @gU.{0} @zG) []
 ·intro k hk;rcases uE k ls.length with hlt|hge
  ·obtain⟨p,hp⟩:=Zac hlt;have hpl:=hl p (uA hp);have hv:=ZmC p;have hs:=ZmB p (by omega);have hm:(ls.map ZaM)[k]? =some (ZaM p):=by rw[uI,hp];rfl
   have hst:(((ls.map ZaM).take k).map Zab++List.replicate (ls.length-k) (D.sl [])).set k (Zab (ZaM p))=((ls.map ZaM).take (k+1)).map Zab++List.replicate (ls.length-(k+1)) (D.sl []):=by
    have hlk:(((ls.map ZaM).take k).map Zab).length=k:=by rw[uC,yJ,uC];omega
    have e:ls.length-k=(ls.length-(k+1))+1:=by omega
    rw[Cm,hlk,if_neg (by omega),jD,e,zE,jZ,ZaA hm,uQ,qK];rfl
   have hLn:(((ls.map ZaM).take k).map Zab++List.replicate (ls.length-k) (D.sl [])).length=ls.length:=by
    rw[uG,uC,yJ,uC,qW];omega
   have hgk:(((ls.map ZaM).take k).map Zab++List.replicate (ls.length-k) (D.sl []))[k]? =some (D.sl []):=by
    rw[qF (by rw[uC,yJ,uC];omega),uC,yJ,uC,jE (by omega),jD,gH,if_pos (by omega)]
   refine kw1 kO (kc3 hp hLn hgk) (kc2 hv hs) ?_;refine⟨k+1,?_,kN (kc1 hst) [],?_⟩
   ·omega
   ·omega
  ·have:k=ls.length:=by omega
   subst this;have htl:((ls.map ZaM).take ls.length)=ls.map ZaM:=uD (by rw[uC];exact uJ _)
   try dsimp only
   rw[htl,jD];refine kw1 kO kc0 kc0 ?_;refine⟨_,_,_,_,rfl,?_⟩;simp(disch:=omega) only[go_sem,simprocAttr,toD,Cn,yT,uC,uD];rw[uD (by rw[uC,uC];exact uJ _)];rfl
def ZcJ (o:List Int)(x:Int):Nat->Nat
 |0=>0
 |k+1=>if x<at0 o k then ZcJ o x k else k+1
theorem Znp (o:List Int)(x:Int):∀k,ZcJ o x k<=k
 |0=>uJ _
 |k+1=>by rw[ZcJ];have:=Znp o x k;split<;>omega
def Ze8 (o:List Int)(x:Int):List Int:=o.take (ZcJ o x o.length)++[x]++o.drop (ZcJ o x o.length)
theorem Zzp (o:List Int)(x:Int):(Ze8 o x).length=o.length+1:=by
 have:=Znp o x o.length;simp only[Ze8,uG,yJ,kC,yB,uY];omega
def ZdR (l:List Int):Nat->List Int
 |0=>[]
 |k+1=>Ze8 (ZdR l k) (at0 l k)
theorem ZrU (l:List Int):∀k,(ZdR l k).length=k
 |0=>rfl
 |k+1=>by rw[ZdR,Zzp,ZrU l k]
theorem ZA1 (r:List Int)(k:Nat):∀d,d∈(List.map D.int r).take k->d.cells.length=1:=λ d hd=>Zhg r d (gT hd)
theorem ZAZ (r:List Int)(k:Nat):∀d,d∈(List.map D.int r).drop k->d.cells.length=1:=λ d hd=>Zhg r d (kY hd)
theorem ZA0 (r:List Int)(k j:Nat):∀d,d∈((List.map D.int r).drop k).take j->d.cells.length=1:=λ d hd=>Zhg r d (kY (gT hd))
theorem ZCn (l:List Int)(hl:l.length<=1000):Zaa Tryz.prog 114 [Zab l] (Zab (ZdR l l.length)):=by
 refine kE Tryz.func114 ?_;intro hat B X w0;refine kw1 kO kc0 kc0 ?_;refine Zao _ (Zcy 3 900 1 rfl rfl) ?_;refine Zaf (λ(i:Nat)=>i<=l.length) (λ i=>[(0, .d (Zab l)),(3, .ref 900 1 0 i i),(4, .int i)]) (λ i=>[(900, .row 1 ((ZdR l i).map D.int))]) (λ i=>l.length-i) 0 ?_ ?_ ?_
 ·exact uH _
 ·exact kN (kc2 @ZdR.eq_1 @yH.{0,0}) []
 ·intro i hi;have hil:=ZrU l i;rcases uE i l.length with hlt|hge
  ·have gi:=ZaG hlt;have his:ZdR l (i+1)=Ze8 (ZdR l i) (at0 l i):=rfl;generalize at0 l i=x at gi his;generalize hO:ZdR l i=O at hil his|-;refine kw1 kO kc0 kc0 ?_;refine Zaf (λ(k:Nat)=>k<=i/\ZcJ O x k=ZcJ O x i) (λ k=>[(0, .d (Zab l)),(3, .ref 900 1 0 i i),(4, .int i),(5, .int k)]) (λ k=>[(900, .row 1 (O.map D.int))]) (λ k=>k) i ?_ ?_ ?_
   ·exact⟨uJ _,rfl⟩
   ·exact kN kc0 []
   ·rintro k ⟨hk,hinv⟩;rcases qM k with h0|h0
    ·subst h0;have en:((0:Nat):Int).toNat=0:=rfl;have hmn:min 0 i=0:=by omega
     have htO:List.take i (List.map D.int O)=List.map D.int O:=uD (by rw[uC];omega);have htl:(List.map D.int O).length=i:=by rw[uC,hil]
     refine kw1 (kow (Nat.beq 31) (b:=true)) (kc8 gi en hk hil @qR.{0} @gU.{0} @zG (kc5 @List.take_take.{0} @Nat.min_self hmn htO htl)) kc0 ?_;have hins:Ze8 O x=x::O:=by rw[Ze8,hil,<-hinv];simp[ZcJ]
     refine⟨i+1,?_,kN (kc3 his hins @uT.{0,0}) [(900,47)],?_⟩
     ·omega
     ·omega
    ·obtain⟨k,rfl⟩:∃m,k=m+1:=⟨k-1,by omega⟩;have gk:=ZaG (r:=O) (i:=k) (by omega);have ek:(((k+1:Nat):Int)-1).toNat=k:=by omega
     have en:(((k+1:Nat):Int)).toNat=k+1:=by omega
     have hmn:min (k+1) i=k+1:=by omega
     have htl:(List.take (k+1) (List.map D.int O)).length=k+1:=by rw[yJ,uC];omega
     have htO:List.take (i-(k+1)) (List.drop (k+1) (List.map D.int O))=List.drop (k+1) (List.map D.int O):=uD (by rw[kC,uC];omega);have htd:(List.drop (k+1) (List.map D.int O)).length=i-(k+1):=by rw[kC,uC];omega
     have hif:k+1+(i-(k+1))=i:=by omega
     have ht2:List.take (k+1+1) (List.take (k+1) (List.map D.int O)++[D.sc (Value.int IntKind.i64 x)])=List.take (k+1) (List.map D.int O)++[D.int x]:=uD (by rw[uG,htl];exact uJ _);rw[ZcJ]at hinv;by_cases hx:x<at0 O k
     ·rw[if_pos hx]at hinv;refine kw1 kO (kc3 gi gk ek) kc0 ?_;refine⟨k,?_,kN (kc3 @qQ @gV @Cx) [],?_⟩
      ·exact⟨by omega,hinv⟩
      ·omega
     ·rw[if_neg hx]at hinv
      repeat' first|refine ZbQ rfl ?_|refine Za7 ?_|refine ZgF (Nat.beq 31) ZcT ?_|(refine ZbY rfl rfl (λ hc=>?_) (λ hc=>?_)<;>try simp only[hcL]at hc)|(refine ZbW _ rfl rfl (λ hc=>?_) (λ hc=>?_)<;>(try simp only[hcL]at hc)<;>try omega)|simp(disch:=omega) only[go_sem,simprocAttr,gi,gk,ek,en,roomy,hk,hil,qR,gU,zG,List.take_take,Nat.min_self,hmn,htO,htl,htd,hif,uJ,uG,yB,uY,qT]|(first|exact Zhg _|exact ZA1 _ _|exact ZAZ _ _|exact ZA0 _ _ _)|apply And.intro|omega|decide+kernel
      have hins:Ze8 O x=O.take (k+1)++[x]++O.drop (k+1):=by rw[Ze8,hil,<-hinv]
      refine⟨i+1,?_,eL [(900,47)] _ _ (by refine⟨?_,?_⟩<;>(repeat' first|exact fmn|refine fmc ⟨(by first|rfl|(simp(disch:=omega) only[go_sem,simprocAttr,inL,his,hins,ht2,uQ,Ap,List.map_drop];first|done|omega|(congr 1;done))),?_⟩);done),?_⟩
      ·omega
      ·omega
  ·have:i=l.length:=by omega
   subst this;refine kw1 kO kc0 kc0 ?_;exact ZbF (o:=900) rfl rfl (by simp[hil]) (uD (by simp[hil]))
theorem Zq1 (o:List Int)(x:Int):∀(k j:Nat),ZcJ o x k<=j->j<k->x<at0 o j
 |0,j,_,h=>by omega
 |k+1,j,h1,h2=>by
  rw[ZcJ]at h1;split at h1
  ·rename_i hx;rcases uE j k with h|h
   ·exact Zq1 o x k j h1 h
   ·rw[show j=k by omega];exact hx
  ·omega
theorem Zq2 (o:List Int)(x:Int):∀(k p:Nat),ZcJ o x k=p+1->at0 o p<=x
 |0,p,h=>by rw[ZcJ]at h;omega
 |k+1,p,h=>by
  rw[ZcJ]at h;split at h
  ·exact Zq2 o x k p h
  ·rename_i hx;rw[show p=k by omega];omega
theorem Zzq (o:List Int)(x:Int):(Ze8 o x).Perm (x::o):=by
 rw[Ze8,qK,List.singleton_append];refine Bc.trans ?_;rw[gJ]
theorem Zzr {o:List Int}(h:o.Pairwise (·<=·))(x:Int):(Ze8 o x).Pairwise (·<=·):=by
 have hlo:∀a,a∈o.take (ZcJ o x o.length)->a<=x:=by
  intro a ha;obtain⟨j,hj⟩:=yV.1 ha;rw[qH]at hj;split at hj
  ·rename_i hjp;obtain⟨p,hp⟩:∃p,ZcJ o x o.length=p+1:=⟨ZcJ o x o.length-1,by omega⟩;have h1:=Zq2 o x o.length p hp;have h2:=Znp o x o.length;have h3:=ZaG (r:=o) (i:=p) (by omega);rcases uE j p with hl|hl
   ·have h4:=(uB.1 hj);obtain⟨h5,h6⟩:=h4;obtain⟨h7,h8⟩:=uB.1 h3;have:=gO.1 h j p h5 h7 hl;rw[h6,h8]at this;exact An this h1
   ·have:j=p:=by omega
    subst this;rw[h3]at hj;cases hj;exact h1
  ·cases hj
 have hhi:∀a,a∈o.drop (ZcJ o x o.length)->x<=a:=by
  intro a ha;obtain⟨j,hj⟩:=yV.1 ha;rw[gA]at hj;have hlt:ZcJ o x o.length+j<o.length:=(uB.1 hj).1;have h1:=Zq1 o x o.length (ZcJ o x o.length+j) (by omega) hlt;rw[ZaG hlt]at hj;cases hj;omega
 rw[Ze8];refine gE.2 ⟨gE.2 ⟨h.sublist (List.take_sublist _ _),zC _ _,λ a ha b hb=>?_⟩,h.sublist (List.drop_sublist _ _),λ a ha b hb=>?_⟩
 ·rw[uS.1 hb];exact hlo a ha
 ·rcases yK.1 ha with ha|ha
  ·exact An (hlo a ha) (hhi b hb)
  ·rw[uS.1 ha];exact hhi b hb
theorem ZrV (l:List Int):∀k,k<=l.length->(ZdR l k).Perm (l.take k)
 |0,_=>by simp[ZdR]
 |k+1,h=>by
  rw[ZdR,ZaA (ZaG (r:=l) (i:=k) (by omega))];exact(Zzq _ _).trans (((ZrV l k (by omega)).cons _).trans (List.perm_append_singleton _ _).symm)
theorem ZrW (l:List Int):∀k,(ZdR l k).Pairwise (·<=·)
 |0=>List.Pairwise.nil
 |k+1=>by rw[ZdR];exact Zzr (ZrW l k) _
theorem Zo3 (l:List Int):(ZaM l).Pairwise (·<=·):=by
 have h:=List.pairwise_mergeSort (le:=λ x y:Int=>decide (x<=y)) (by intro a b c h1 h2;simp only[uF]at*;omega) (by intro a b;simp only[qZ,uF];omega) l;exact h.imp λ h=>by simpa using h
theorem ZhC (l:List Int):(ZaM l).Perm l:=List.mergeSort_perm _ _
theorem ZrT (l:List Int):ZdR l l.length=ZaM l:=by
 refine Bp (le:=(·<=·)) (λ a b _ _ h1 h2=>Int.le_antisymm h1 h2) (ZrW l _) (Zo3 l) ?_;have:=ZrV l l.length (uJ _);rw[yE]at this;exact this.trans (ZhC l).symm
theorem ZCm (l:List Int)(hl:l.length<=1000):Zaa Tryz.prog 114 [Zab l] (Zab (ZaM l)):=ZrT l▸ZCn l hl
theorem ZBO (a:Lv)(hn:a.2.1.length<=1000)(hl:∀y,y∈a.2.1->y.length<=1000):Zaa Tryz.prog 56 [lvD a] (lvD (ZcX a)):=by
 obtain⟨n,ls,ar,cs⟩:=a;dsimp only at hn hl;refine kE Tryz.func56 ?_;intro hat B X w0;refine kw1 kO kc0 kc0 ?_;refine Zao _ (Zch 3 1 901 1 rfl rfl rfl) ?_;refine Zaf (λ(k:Nat)=>k<=ls.length) (λ k=>[(1, .ptr 1 0 0 0),(2, .ptr 2 0 0 0),(3, .ptr 3 0 0 0),(4, .int k)]) (λ k=>[(1, .cells [.int n, .d (Zae ls), .d (Zaj ar), .d (Zae cs)]),(2, .cells [.int 0, .nilS, .nilS, .nilS]),(3, .cells [.int n, .ref 901 1 0 k k, .d (Zaj ar), .d (Zae cs)]),(901, .row 1 (((ls.map ZaM).take k).map Zab))]) (λ k=>ls.length-k) 0 ?_ ?_ ?_
 ·exact uH _
 ·exact kN (kc2 @yX.{0} @yH.{0,0}) []
 ·intro k hk;rcases uE k ls.length with hlt|hge
  ·obtain⟨p,hp⟩:=Zac hlt;have hpl:=hl p (uA hp);have hs:=ZCm p hpl;have hm:(ls.map ZaM)[k]? =some (ZaM p):=by rw[uI,hp];rfl
   have hts:=ZaA hm;have hlk:(((ls.map ZaM).take k).map Zab).length=k:=by rw[uC,yJ,uC];omega
   have htk:List.take k (((ls.map ZaM).take k).map Zab)=((ls.map ZaM).take k).map Zab:=uD (by rw[hlk];exact uJ _);refine kw1 kO (kc2 hp hlk) (kc1 hs) ?_;refine⟨k+1,?_,kN (kc3 hts @uQ.{0,0} htk) [(901,28)],?_⟩
   ·omega
   ·omega
  ·have:k=ls.length:=by omega
   subst this;have htl:((ls.map ZaM).take ls.length)=ls.map ZaM:=uD (by rw[uC];exact uJ _)
   try dsimp only
   rw[htl];refine kw1 kO kc0 kc0 ?_;refine⟨_,_,_,_,rfl,?_⟩;simp(disch:=omega) only[go_sem,simprocAttr,toD,uC];rw[uD (by rw[uC,uC];exact uJ _)];rfl
theorem ite_min (a b:Int):(if b<a then b else a)=min a b:=by omega
def Za9 (g:Nat->Int)(n k:Nat):List Int:=(List.range n).map λ u=>if u<k then g u else 0
theorem ZdB (g:Nat->Int)(n k:Nat):(Za9 g n k).length=n:=by simp[Za9]
theorem Zft {g:Nat->Int}{n k u:Nat}(h:u<n):(Za9 g n k)[u]? =some (if u<k then g u else 0):=by simp[Za9,h]
theorem Zh0 (g:Nat->Int)(n:Nat):(Za9 g n 0).map D.int=List.replicate n (D.int 0):=by
 rw[zP];refine⟨by simp[Za9],λ b hb=>?_⟩;simp only[Za9,gR,uP]at hb;obtain⟨u,_,rfl⟩:=hb;simp
theorem ZhZ {g:Nat->Int}{n k:Nat}(h:k<n):(Za9 g n k).set k (g k)=Za9 g n (k+1):=by
 refine qA λ u=>?_
 by_cases hu:u<n
 ·rw[Zft hu,qL,Zft hu,ZdB];by_cases c:k=u
  ·subst c;rw[if_pos rfl,if_pos h,if_pos (by omega)]
  ·rw[if_neg c];by_cases c2:u<k
   ·rw[if_pos c2,if_pos (by omega)]
   ·rw[if_neg c2,if_neg (by omega)]
 ·rw[uN (by rw[yP,ZdB];omega),uN (by rw[ZdB];omega)]
theorem ZhY (g:Nat->Int)(n:Nat):Za9 g n n=(List.range n).map g:=by
 rw[Za9];refine yM λ u hu=>?_
 rw[if_pos (uZ.1 hu)]
theorem Zqb {ds cs:List D}{l:List D}{m:List D}{k:Nat}(i j:Nat)(h:∃w X vs,ZhH w X ds vs)(hi:ds[i]? =some (.ag cs))(hj:cs[j]? =some (.sl l))(hk:l[k]? =some (.sl m)):m.length<=9223372036854775807:=by
 obtain⟨w,X,vs,h1,h2⟩:=h;have hlt:i<vs.size:=by have:=(uB.1 hi).1;omega
 have:=h2 i _ _ hi (uU hlt);generalize vs[i]=v at this;cases this with
 |ag _ arr hsz hone hat=>
  have hlt:j<arr.size:=by have:=(uB.1 hj).1;omega
  have:=hat j _ _ hj (uU hlt);generalize arr[j]=v at this;cases this with
  |slnil=>cases hk
  |sl _ b off cap sz hl hc hsz vals hv he=>
   have:=he k _ 0 _ hk rfl;generalize vals k 0=v at this;cases this with
   |slnil=>simp
   |sl _ b off cap sz hl hc=>simp only[maxLen]at hc;omega
def Zcx (c:List Int):Arc:=(at0 c 0,at0 c ((c.length:Int)-1))
def ZaE (a:Lv):Gr:=(a.1,a.2.2.2.map Zcx)
def ZaL (a:Lv):List Int:=(List.range a.1.toNat).map λ v:Nat=>Zav a.2.1 v
def ZfY (a:Lv):Bool:=decide (0<=a.1/\a.1<=64/\a.2.2.2.length<=256/\a.2.1.length<=256)
def Zem (c:List Int):Bool:=decide (c.length<2)
def Zh8 (a:Lv)(v:Nat):Bool:=decide (Zav a.2.1 v<0)
def Zgs (a:Lv):Bool:= !(List.range a.1.toNat).any (Zh8 a)
def Zar (a:Lv):Bool:=ZfY a&& !a.2.2.2.any Zem&&Zgs a&&decide ((Zay (ZaE a) (ZaL a)).2=0)&&ZfA (ZcX a) (Zay (ZaE a) (ZaL a)).1
def wide (a:Lv):Prop:=∀y,y∈a.2.1->y.length*8<=152
theorem Zgh (a:Lv)(hw:wide a):Zaa Tryz.prog 51 [lvD a] (.bool (Zar a)):=by
 have hfd:=ZiV a;have hbd:=ZpE (ZaE a) (ZaL a);have hsd:=ZEt a;have hsm:=Zv6 (ZcX a) (Zay (ZaE a) (ZaL a)).1;obtain⟨m,ls,ar,cs⟩:=a;refine kE Tryz.func51 ?_;intro hat B X w0;have h1:=Zcf 0 1 hat rfl rfl;have h2:=Zcf 0 2 hat rfl rfl;have h3:=Zcf 0 3 hat rfl rfl;rw[uC]at h1 h2 h3;dsimp only at h1 h2 h3;refine kw kO kc0 kc0 ?_
 repeat' first|exact True.intro|refine Bn.mk ?_ ?_|intro hc
 all_goals try (refine Zah ?_;simp[Zar,ZfY];omega)
 obtain⟨n,rfl⟩:∃n:Nat,m=n:=⟨m.toNat,by omega⟩;have hhd:ZfY ((n:Int),ls,ar,cs)=true:=by simp[ZfY];omega
 have hn64:n<=64:=by omega
 have hc256:cs.length<=256:=by omega
 have hl256:ls.length<=256:=by omega
 refine Zao _ (Zch 3 1 901 2 rfl rfl rfl) ?_;refine Zaf (λ(k:Nat)=>k<=cs.length/\∀(j:Nat) y,j<k->cs[j]? =some y->Zem y=false) (λ k=>[(1, .ptr 1 0 0 0),(3, .ptr 3 0 0 0),(34, .d (Zae cs)),(35, .int cs.length),(36, .int k)]) (λ k=>[(1, .cells [.int n, .d (Zae ls), .d (Zaj ar), .d (Zae cs)]),(3, .cells [.int n, .ref 901 2 0 k k]),(901, .row 2 (((cs.take k).map Zcx).map Za0))]) (λ k=>cs.length-k) 0 ?_ ?_ ?_
 ·exact⟨uH _,λ j y h=>by omega⟩
 ·exact kN (kc2 @yX.{0} @yH.{0,0}) []
 ·rintro k ⟨hk,hinv⟩;rcases uE k cs.length with hlt|hge
  ·obtain⟨c,hc0⟩:=Zac hlt;by_cases hsc:c.length<2
   ·refine kw1 kO (kc1 hc0) kc0 ?_;refine Zah ?_;have:cs.any Zem=true:=ZcE hc0 (by simpa[Zem]using hsc);simp[Zar,this]
   ·have hcl:c.length<=9223372036854775807:=by have:=Zqb (m:=c.map D.int) (k:=k) 0 3 hat rfl rfl (by rw[uI,hc0];rfl);rwa [uC]at this
    have e1:=ZaG (r:=c) (i:=0) (by omega);have e2:=ZdK (r:=c) (v:=(c.length:Int)-1) (by omega) (by omega);have hts:=ZaA hc0;have hlk:(((cs.take k).map Zcx).map Za0).length=k:=by rw[uC,uC,yJ];omega
    have htk:List.take k (((cs.take k).map Zcx).map Za0)=((cs.take k).map Zcx).map Za0:=uD (by rw[hlk];exact uJ _);refine kw1 kO (kc4 hc0 e1 e2 hlk) kc0 ?_;refine⟨k+1,?_,kN (kc3 hts @uQ.{0,0} htk) [(901,56)],?_⟩
    ·exact⟨by omega,Zbr hinv hc0 (by simpa[Zem]using hsc)⟩
    ·omega
  ·have:k=cs.length:=by omega
   subst this;have hsc:cs.any Zem=false:=Zc2 λ j y hj=>hinv j y hj
   try dsimp only
   rw[yE];refine kw1 (kow (Nat.beq 61) (b:=false)) kc0 kc0 ?_;refine Zaf (λ(v:Nat)=>v<=n/\∀u,u<v->Zh8 (n,ls,ar,cs) u=false) (λ v=>[(1, .ptr 1 0 0 0),(3, .ptr 3 0 0 0),(6, .ref 61 1 0 n n),(63, .int n),(64, .int v)]) (λ v=>[(1, .cells [.int n, .d (Zae ls), .d (Zaj ar), .d (Zae cs)]),(3, .cells [.int n, .ref 901 2 0 cs.length cs.length]),(901, .row 2 ((cs.map Zcx).map Za0)),(61, .row 1 ((Za9 (λ u=>Zav ls u) n v).map D.int))]) (λ v=>n-v) 0 ?_ ?_ ?_
   ·exact⟨uH _,λ u h=>by omega⟩
   ·exact kN (kc1 @Zh0) []
   ·rintro v ⟨hv,hinv2⟩;have hfl:=ZdB (λ u=>Zav ls u) n v;rcases uE v n with hlt|hge
    ·have hg:=Zft (g:=λ u=>Zav ls u) (k:=v) hlt;have hst:=ZhZ (g:=λ u=>Zav ls u) hlt;have hsm:(List.map D.int (Za9 (λ u=>Zav ls u) n v)).set v (D.sc (Value.int IntKind.i64 (Zav ls v)))=List.map D.int (Za9 (λ u=>Zav ls u) n (v+1)):=by rw[<-hst,yZ]
     have hfl2:=ZdB (λ u=>Zav ls u) n (v+1);have hg2:=Zft (g:=λ u=>Zav ls u) (k:=v+1) hlt;rw[if_pos (by omega)]at hg2;have hf:=hfd v;dsimp only at hf;by_cases hn:Zav ls v<0
     ·have hfo:Zgs ((n:Int),ls,ar,cs)=false:=by
       rw[Zgs,Ao,gF];exact⟨v,by simpa using hlt,by simpa[Zh8]using hn⟩
      refine kw1 kO (kc5 hg hsm hg2 hfl hfl2) (kc1 hf) ?_;refine Zah ?_;simp[Zar,hfo]
     ·refine kw1 kO (kc5 hg hsm hg2 hfl hfl2) (kc1 hf) ?_;refine⟨v+1,?_,kN (kc1 hsm) [],?_⟩
      ·refine⟨by omega,λ u hu=>?_⟩;rcases yY.1 hu with h|rfl
       ·exact hinv2 u h
       ·simpa[Zh8]using hn
      ·omega
    ·have:v=n:=by omega
     subst this;have hfo:Zgs ((v:Int),ls,ar,cs)=true:=by
      rw[Zgs,yC,yS];intro u hu;rw[hinv2 u (by simpa using hu)]
      decide
     have hre:Za9 (λ u=>Zav ls u) v v=ZaL ((v:Int),ls,ar,cs):=by rw[ZhY,ZaL];rfl
     have hsg:ZaE ((v:Int),ls,ar,cs)=((v:Int),cs.map Zcx):=rfl
     try dsimp only
     rw[hre];rw[hsg]at hbd hsm;have hvf:Zar ((v:Int),ls,ar,cs)=(decide ((Zay ((v:Int),cs.map Zcx) (ZaL ((v:Int),ls,ar,cs))).2=0)&&ZfA (ZcX ((v:Int),ls,ar,cs)) (Zay ((v:Int),cs.map Zcx) (ZaL ((v:Int),ls,ar,cs))).1):=by rw[Zar,hhd,hsc,hfo,hsg];simp
     rw[hvf];have hrl:(ZaL ((v:Int),ls,ar,cs)).length=v:=by simp[ZaL]
     generalize ZaL ((v:Int),ls,ar,cs)=R at*;generalize Zay ((v:Int),cs.map Zcx) R=BF at*;obtain⟨b,e⟩:=BF;have hsd1:=hsd (by simpa using(show ls.length<=1000 by omega)) (λ y hy=>by have:=hw y hy;omega);generalize ZcX ((v:Int),ls,ar,cs)=S at*;dsimp only at hbd hsm|-;have htA:((cs.map Zcx).map Za0).take cs.length=(cs.map Zcx).map Za0:=uD (by simp);have htR:(R.map D.int).take v=R.map D.int:=uD (by simp[hrl]);have hlA:((cs.map Zcx).map Za0).length=cs.length:=by simp
     have hlR:(R.map D.int).length=v:=by simp[hrl]
     refine Zao _ (Zc5 901 2 ((cs.map Zcx).map Za0) rfl (ZcW _ rfl) (by decide)) ?_;refine kR (kc4 @qR.{0} htA hlA @uJ) [] [(1, .ptr 1 0 0 0),(3, .ptr 3 0 0 0),(6, .ref 61 1 0 v v),(63, .int v),(64, .int v)] [(1, .cells [.int v, .d (Zae ls), .d (Zaj ar), .d (Zae cs)]),(3, .cells [.int v, .d (Zaj (cs.map Zcx))]),(61, .row 1 (R.map D.int))] ?_;refine Zao _ (Zc5 61 1 (R.map D.int) rfl (ZcW _ rfl) (by decide)) ?_;by_cases he:e=0
     ·subst he;rcases hsv:ZfA S b with _|_<;>rw[hsv]at hsm
      all_goals
       refine kw1 kO (kc3 htR hlR @qR.{0}) (kc3 hbd hsd1 hsm) ?_;refine Zah ?_;simp[hsv]
     ·refine kw1 kO (kc4 he htR hlR @qR.{0}) (kc3 hbd hsd1 hsm) ?_;refine Zah ?_;simp[he]
def tot :List (List Int)->Nat
 |[]=>0
 |y::l=>y.length+tot l
theorem Zvn (l m:List (List Int)):tot (l++m)=tot l+tot m:=by
 induction l with
 |nil=>simp[tot]
 |cons y l ih=>simp only[jH,tot,ih];omega
theorem ZkI {l:List (List Int)}{k:Nat}{y:List Int}(h:l[k]? =some y):tot (l.take (k+1))=tot (l.take k)+y.length:=by
 rw[ZaA h,Zvn];simp[tot]
theorem Zjr (l:List (List Int))(k:Nat):tot (l.take k)<=tot l:=by
 conv=>rhs;rw[<-gJ k l]
 rw[Zvn];omega
theorem Zmp (l:List (List Int)):l.flatten.length=tot l:=by
 induction l with
 |nil=>rfl
 |cons y l ih=>simp only[Au,uG,tot,ih]
theorem Zdq {l:List (List Int)}{y:List Int}(h:y∈l):y.length<=tot l:=by
 induction l with
 |nil=>cases h
 |cons x l ih=>
  rw[tot];rcases yF.1 h with rfl|h
  ·omega
  ·have:=ih h;omega
def Zc6 (c:Nat)(ls:List (List Int)):Bool:=ls.flatten.all (λ v=>decide (0<=v/\v<c))&&decide ls.flatten.Nodup
def Zcr (c:Nat)(ls:List (List Int)):List Int:=(List.range c).map λ v:Nat=>Zav ls v
def Zcz (ls:List (List Int)):Option (List Int):=if 256<ls.length\/512<tot ls then none else if Zc6 (tot ls) ls then some (Zcr (tot ls) ls)else none
theorem Zel (c:Nat)(ls:List (List Int)):(Zcr c ls).length=c:=by simp[Zcr]
theorem Zjj {c v:Nat}(h:v<c)(ls:List (List Int)):(Zcr c ls)[v]? =some (Zav ls v):=by simp[Zcr,h]
theorem Ze9 {ls:List (List Int)}{v:Int}:0<=Zav ls v↔v∈ls.flatten:=by
 have h:=Zg3 (λ y:List Int=>y.any λ x=>decide (x=v)) ls;have:decide (0<=Zav ls v)=true↔v∈ls.flatten:=by
  rw[Zav,h,gF,zK];constructor
  ·rintro⟨y,h1,h2⟩;obtain⟨x,h3,h4⟩:=gF.1 h2;have:x=v:=by simpa using h4
   exact⟨y,h1,this▸h3⟩
  ·rintro⟨y,h1,h2⟩;exact⟨y,h1,gF.2 ⟨v,h2,by simp⟩⟩
 simpa using this
theorem ZnV {ls:List (List Int)}{v:Int}(h:v∉ls.flatten):Zav ls v=-1:=by
 have h2:¬0<=Zav ls v:=λ h1=>h (Ze9.1 h1)
 unfold Zav at h2|-;unfold ZcU at h2|-;split
 ·rename_i i hi;rw[hi]at h2;dsimp only at h2;omega
 ·rfl
theorem Zsc (ls:List (List Int))(y:List Int)(v:Int):Zav (ls++[y]) v=if v∈ls.flatten then Zav ls v else if v∈y then(ls.length:Int)else -1:=by
 by_cases h1:v∈ls.flatten
 ·rw[if_pos h1];have h2:=Ze9.2 h1;unfold Zav at h2|-;rw[List.findIdx?_append];cases hf:ls.findIdx? (λ y=>y.any λ x=>decide (x=v))with
  |none=>rw[hf]at h2;exact absurd h2 (by decide)
  |some i=>rfl
 ·rw[if_neg h1];have h2:=ZnV h1;by_cases h3:v∈y
  ·rw[if_pos h3];unfold Zav at h2|-;rw[List.findIdx?_append];cases hf:ls.findIdx? (λ y=>y.any λ x=>decide (x=v))with
   |some i=>rw[hf]at h2;simp only[ZcU]at h2;omega
   |none=>
    have:(y.any λ x=>decide (x=v))=true:=gF.2 ⟨v,h3,by simp⟩;rw[jL,if_pos this];simp[ZcU]
  ·rw[if_neg h3];refine ZnV ?_;rw[Ad,yK];rintro(h|h)
   ·exact h1 h
   ·exact h3 (by simpa using h)
def pre (ls:List (List Int))(i k:Nat):List (List Int):=ls.take i++[((ls[i]?).getD []).take k]
theorem ZyH (ls:List (List Int)){i k:Nat}{y:List Int}(h:ls[i]? =some y):ls.flatten=(pre ls i k).flatten++(y.drop k++(ls.drop (i+1)).flatten):=by
 have hd:ls.drop i=y::ls.drop (i+1):=by
  obtain⟨hi,he⟩:=uB.1 h;rw[<-he];exact qY hi
 conv=>lhs;rw[<-gJ i ls,hd,Ad,Au]
 rw[pre,h,Ad];simp only[yN,Au,List.flatten_nil,yT]
 conv=>lhs;rw[<-gJ k y]
 simp only[qK]
theorem ZyI (ls:List (List Int)){i k:Nat}{y:List Int}{v:Int}(h:ls[i]? =some y)(hv:y[k]? =some v):(pre ls i (k+1)).flatten=(pre ls i k).flatten++[v]:=by
 simp only[pre,h,yN,Ad,Au,List.flatten_nil,yT,ZaA hv,qK]
theorem ZC2 {c:Nat}(ls:List (List Int)){i k:Nat}{y:List Int}{v:Int}(h:ls[i]? =some y)(hv:y[k]? =some v)(h0:0<=v)(h1:Zav (pre ls i k) v<0):
  (Zcr c (pre ls i k)).set v.toNat (i:Int)=Zcr c (pre ls i (k+1)):=by
 have hi:(ls.take i).length=i:=by rw[yJ];have:=(uB.1 h).1;omega
 refine qA λ u=>?_
 by_cases hu:u<c
 ·rw[Zjj hu,qL,Zjj hu,Zel];simp only[pre,h,yN,Zsc,ZaA hv,hi,yK,uS]at h1|-;by_cases e:v.toNat=u
  ·subst e;have ev:((v.toNat:Nat):Int)=v:=by omega
   rw[if_pos rfl,if_pos hu,ev];split at h1
   ·rename_i hm;have:=Ze9.2 hm;omega
   ·rename_i hm;rw[if_neg hm,if_pos (.inr rfl)]
  ·rw[if_neg e];have:¬(u:Int)=v:=by omega
   simp[this]
 ·rw[uN (by rw[yP,Zel];omega),uN (by rw[Zel];omega)]
theorem ZzJ (ls:List (List Int))(i:Nat)(v:Int):Zav (pre ls i 0) v=Zav (ls.take i) v:=by
 rw[pre,Zsc];by_cases h:v∈(ls.take i).flatten
 ·rw[if_pos h]
 ·rw[if_neg h,yX,if_neg gL,ZnV h]
theorem ZC1 (c:Nat)(ls:List (List Int))(i:Nat):Zcr c (pre ls i 0)=Zcr c (ls.take i):=by
 simp only[Zcr,ZzJ]
theorem ZB2 {ls:List (List Int)}{i:Nat}{y:List Int}(h:ls[i]? =some y):pre ls i y.length=ls.take (i+1):=by
 rw[pre,h,yN,yE,ZaA h]
theorem ZyZ {c:Nat}{ls:List (List Int)}{i:Nat}:Zc6 c (pre ls i 0)=Zc6 c (ls.take i):=by
 simp[Zc6,pre]
theorem Zgv {c:Nat}{ls:List (List Int)}:Zc6 c ls=true↔(∀v∈ls.flatten,0<=v/\v<c)/\ls.flatten.Nodup:=by
 simp only[Zc6,uL,uX,uF]
theorem Zy0 {c:Nat}{ls:List (List Int)}{i k:Nat}{y:List Int}{v:Int}(h:ls[i]? =some y)(hv:y[k]? =some v)(hg:Zc6 c (pre ls i k)=true)(h0:0<=v)(h2:v<c)(h1:Zav (pre ls i k) v<0):
  Zc6 c (pre ls i (k+1))=true:=by
 rw[Zgv]at hg|-;rw[ZyI ls h hv];have hn:v∉(pre ls i k).flatten:=λ hm=>by have:=Ze9.2 hm;omega
 refine⟨λ u hu=>?_,kL.2 ⟨hg.2,by simp,λ a ha b hb=>?_⟩⟩
 ·rcases yK.1 hu with hu|hu
  ·exact hg.1 u hu
  ·rw[uS.1 hu];exact⟨h0,h2⟩
 ·rw[uS.1 hb];rintro rfl;exact hn ha
theorem Zqg {c:Nat}{ls:List (List Int)}{i k:Nat}{y:List Int}{v:Int}(h:ls[i]? =some y)(hv:y[k]? =some v)(hb:v<0\/(c:Int)<=v\/0<=Zav (pre ls i k) v):Zc6 c ls=false:=by
 rw[zV];intro hg;rw[Zgv]at hg;have hd:y.drop k=v::y.drop (k+1):=by
  obtain⟨hi,he⟩:=uB.1 hv;rw[<-he];exact qY hi
 have hf:=ZyH ls (k:=k) h;rw[hd]at hf;rw[hf]at hg;have hm:=hg.1 v (by simp);rcases hb with hb|hb|hb
 ·omega
 ·omega
 ·exact(kL.1 hg.2).2.2 v (Ze9.1 hb) v (by simp) rfl
theorem ZC3 (c:Nat):Zcr c []=List.replicate c (-1):=by
 rw[zP];refine⟨Zel _ _,λ b hb=>?_⟩;obtain⟨u,_,rfl⟩:=uP.1 hb;rfl
def Zfb (c k:Nat):List Int:=List.replicate k (-1)++List.replicate (c-k) 0
theorem ZsW {c k:Nat}(h:k<=c):(Zfb c k).length=c:=by simp[Zfb];omega
theorem ZAD {c k:Nat}(h:k<c):(Zfb c k).set k (-1)=Zfb c (k+1):=by
 have e:c-k=(c-(k+1))+1:=by omega
 rw[Zfb,e,zE,Cm,qW,if_neg (by omega),jD,jZ,Zfb,List.replicate_succ',qK];rfl
theorem ZAC {c k:Nat}(h:k<c):∃x,(Zfb c k)[k]? =some x:=Zac (by rw[ZsW (by omega)];exact h)
theorem ZAB (c:Nat):Zfb c c=Zcr c []:=by rw[ZC3,Zfb,jD];simp
theorem ZAE (c:Nat):(Zfb c 0).map D.int=List.replicate c (D.int 0):=by simp[Zfb]
theorem ZpN (a:Lv)(hw:wide a):Zaa Tryz.prog 111 [lvD a] (.tup [Zab ((Zcz a.2.1).getD []), .bool (Zcz a.2.1).isSome]):=by
 obtain⟨m,ls,ar,cs⟩:=a;have hww:∀y,y∈ls->y.length*8<=140737488351232:=λ y hy=>by have:=hw y hy;omega
 refine kE Tryz.func111 ?_;intro hat B X w0;have h1:=Zcf 0 1 hat rfl rfl;rw[uC]at h1;dsimp only at h1;refine kw1 kO kc0 kc0 ?_;refine Zaf (λ(i:Nat)=>i<=ls.length/\i<=257/\tot (ls.take i)<=512+17592186043904) (λ i=>[(1, .ptr 1 0 0 0),(4, .int (tot (ls.take i))),(5, .int i)]) (λ i=>[(1, .cells [.int m, .d (Zae ls), .d (Zaj ar), .d (Zae cs)])]) (λ i=>ls.length-i) 0 ?_ ?_ ?_
 ·exact⟨uH _,by omega,by simp[tot]⟩
 ·exact kN (kc2 @yX.{0} @tot.eq_1) []
 ·rintro i ⟨hi1,hi2,hi3⟩;by_cases hgo:i<ls.length/\i<257/\tot (ls.take i)<=512
  ·obtain⟨g1,g2,g3⟩:=hgo;obtain⟨y,hy⟩:=Zac g1;have hyw:=hww y (uA hy);have hts:=ZkI hy;refine kw1 kO (kc1 hy) kc0 ?_;refine⟨i+1,?_,kN (kc2 hts @qQ) [],?_⟩
   ·exact⟨by omega,by omega,by omega⟩
   ·omega
  ·have hout:(256<ls.length\/512<tot (ls.take i))\/(i=ls.length/\ls.length<=256/\tot ls<=512):=by
    by_cases c1:i=ls.length
    ·rw[c1,yE];omega
    ·omega
   rcases hout with hno|⟨rfl,g2,g3⟩
   ·have htl:=Zjr ls i;have hrf:Zcz ls=none:=by rw[Zcz,if_pos (by omega)]
    rw[hrf];have hlt:i<ls.length\/i=ls.length:=by omega
    rcases hlt with hlt|hlt
    all_goals
     by_cases h257:i<257
     all_goals
      refine kw kO kc0 kc0 ?_
      repeat' first|exact True.intro|refine Bn.mk ?_ ?_|intro hc
      all_goals exact⟨_,rfl,rfl,Zah rfl,trivial⟩
   ·rw[yE];have hrf:Zcz ls=if Zc6 (tot ls) ls then some (Zcr (tot ls) ls)else none:=by rw[Zcz,if_neg (by omega)]
    rw[hrf];generalize hc:tot ls=c at g3|-;refine kw1 (kow (Nat.beq 43) (b:=false)) kc0 kc0 ?_;refine Zaf (λ(v:Nat)=>v<=c) (λ v=>[(1, .ptr 1 0 0 0),(4, .int c),(6, .ref 43 1 0 c c),(7, .int v)]) (λ v=>[(1, .cells [.int m, .d (Zae ls), .d (Zaj ar), .d (Zae cs)]),(43, .row 1 ((Zfb c v).map D.int))]) (λ v=>c-v) 0 ?_ ?_ ?_
    ·exact uH _
    ·exact kN (kc1 @ZAE) []
    ·intro v hv;have hnl:=ZsW hv;rcases uE v c with hlt|hge
     ·obtain⟨x,hx⟩:=ZAC hlt;have hst:=ZAD hlt;refine kw1 kO (kc2 hx hnl) kc0 ?_;refine⟨v+1,?_,kN (kc2 @hst.symm @yZ.{0,0}) [],?_⟩
      ·omega
      ·omega
     ·have:v=c:=by omega
      subst this
      try dsimp only
      rw[ZAB];refine kw1 kO kc0 kc0 ?_;refine Zaf (λ(i:Nat)=>i<=ls.length/\Zc6 v (ls.take i)=true) (λ i=>[(1, .ptr 1 0 0 0),(4, .int v),(6, .ref 43 1 0 v v),(8, .int i)]) (λ i=>[(1, .cells [.int m, .d (Zae ls), .d (Zaj ar), .d (Zae cs)]),(43, .row 1 ((Zcr v (ls.take i)).map D.int))]) (λ i=>ls.length-i) 0 ?_ ?_ ?_
      ·exact⟨uH _,by simp[Zc6]⟩
      ·exact kN (kc1 @yX.{0}) []
      ·rintro i ⟨hi,hgood⟩;rcases uE i ls.length with hlt|hge
       ·obtain⟨y,hy⟩:=Zac hlt;have hyw:=hww y (uA hy);refine kw1 kO (kc1 hy) kc0 ?_;refine Zaf (λ(k:Nat)=>k<=y.length/\Zc6 v (pre ls i k)=true) (λ k=>[(1, .ptr 1 0 0 0),(4, .int v),(6, .ref 43 1 0 v v),(8, .int i),(9, .int k)]) (λ k=>[(1, .cells [.int m, .d (Zae ls), .d (Zaj ar), .d (Zae cs)]),(43, .row 1 ((Zcr v (pre ls i k)).map D.int))]) (λ k=>y.length-k) 0 ?_ ?_ ?_
        ·exact⟨uH _,by rw[ZyZ];exact hgood⟩
        ·exact kN (kc1 @ZC1) []
        ·rintro k ⟨hk,hgk⟩;rcases uE k y.length with hlk|hgk2
         ·obtain⟨x,hx⟩:=Zac hlk;have hrl:=Zel v (pre ls i k);by_cases hin:0<=x/\x<v
          ·have hg:=Zjj (v:=x.toNat) (c:=v) (by omega) (pre ls i k);rw[show((x.toNat:Nat):Int)=x by omega]at hg;by_cases hd:Zav (pre ls i k) x<0
           ·have hst:=ZC2 (c:=v) ls hy hx hin.1 hd;refine kw1 kO (kc4 hy hx hrl hg) kc0 ?_;refine⟨k+1,?_,kN (kc2 @hst.symm @yZ.{0,0}) [],?_⟩
            ·exact⟨by omega,Zy0 hy hx hgk hin.1 hin.2 hd⟩
            ·omega
           ·have hbad:=Zqg (c:=v) hy hx (.inr (.inr (by omega)));rw[hbad];refine kw1 kO (kc4 hy hx hrl hg) kc0 ?_
            all_goals exact⟨_,rfl,rfl,Zah rfl,trivial⟩
          ·have hbad:=Zqg (c:=v) hy hx (by omega);rw[hbad];refine kw kO (kc3 hy hx hrl) kc0 ?_
           repeat' first|exact True.intro|refine Bn.mk ?_ ?_|intro hc
           all_goals exact⟨_,rfl,rfl,Zah rfl,trivial⟩
         ·have:k=y.length:=by omega
          subst this;have hpf:=ZB2 hy;refine kw1 kO (kc1 hy) kc0 ?_;refine⟨i+1,?_,kN (kc1 hpf) [],?_⟩
          ·exact⟨by omega,by rw[<-hpf];exact hgk⟩
          ·omega
       ·have:i=ls.length:=by omega
        subst this;rw[yE]at hgood
        try dsimp only
        rw[yE,hgood];refine kw1 kO kc0 kc0 ?_;exact⟨_,rfl,ZbF (o:=43) rfl rfl (by simp[Zel]) (uD (by simp[Zel])),Zah rfl,trivial⟩
def ZhD (a:Lv)(o:List Int):Bool:=decide (0<=a.1/\a.1<=o.length/\a.1<=64/\a.2.2.2.length<=256)&& !a.2.2.2.any Zem
def Zcs (a:Lv):Gr×List Int×Bool:=match Zcz a.2.1 with
 |none=>((0,[]),[],false)
 |some o=>if ZhD a o then(ZaE a,o.take a.1.toNat,true)else((0,[]),[],false)
def Zjf (a:Lv):Bool:=(Zcs a).2.2&&decide ((Zay (Zcs a).1 (Zcs a).2.1).2=0)&&ZfA (Zay (Zcs a).1 (Zcs a).2.1).1 (ZcX a)
theorem Zv9 (a:Lv)(hw:wide a):Zaa Tryz.prog 54 [lvD a] (.tup [gD (Zcs a).1,Zab (Zcs a).2.1, .bool (Zcs a).2.2]):=by
 have hr:=ZpN a hw;obtain⟨m,ls,ar,cs⟩:=a;dsimp only at hr;have hsf:Zcs (m,ls,ar,cs)=match Zcz ls with
  |none=>((0,[]),[],false)
  |some o=>if ZhD (m,ls,ar,cs) o then((m,cs.map Zcx),o.take m.toNat,true)else((0,[]),[],false):=rfl
 rw[hsf];rcases hrf:Zcz ls with _|o
 ·rw[hrf]at hr;dsimp only[Option.getD_none,Option.isSome_none]at hr;refine kE Tryz.func54 ?_;intro hat B X w0;refine kw1 kO kc0 (kc1 hr) ?_;refine⟨_,rfl,⟨_,_,_,_,rfl,?_⟩,rfl,Zah rfl,trivial⟩;simp(disch:=omega) only[go_sem,simprocAttr,toD];rfl
 ·rw[hrf]at hr;dsimp only[Option.getD_some,Option.isSome_some]at hr;dsimp only;have hol:o.length<=512:=by
   rw[Zcz]at hrf;split at hrf
   ·cases hrf
   ·split at hrf
    ·cases hrf;rw[Zel];omega
    ·cases hrf
  refine kE Tryz.func54 ?_;intro hat B X w0;have h3:=Zcf 0 3 hat rfl rfl;rw[uC]at h3;dsimp only at h3;refine kw kO kc0 (kc1 hr) ?_
  repeat' first|exact True.intro|refine Bn.mk ?_ ?_|intro hc
  all_goals try
   rw[if_neg (by simp[ZhD];omega)];refine⟨_,rfl,⟨_,_,_,_,rfl,?_⟩,rfl,Zah rfl,trivial⟩;simp(disch:=omega) only[go_sem,simprocAttr,toD];rfl
  obtain⟨n,rfl⟩:∃n:Nat,m=n:=⟨m.toNat,by omega⟩;have hn1:n<=o.length:=by omega
  have hn2:n<=64:=by omega
  have hc2:cs.length<=256:=by omega
  have hso:ZhD ((n:Int),ls,ar,cs) o= !cs.any Zem:=by
   simp only[ZhD];rw[yD (by omega),kH]
  rw[hso];refine Zao _ (Zch 7 1 901 2 rfl rfl rfl) ?_;refine Zaf (λ(k:Nat)=>k<=cs.length/\∀(j:Nat) y,j<k->cs[j]? =some y->Zem y=false) (λ k=>[(1, .ptr 1 0 0 0),(2, .ptr 2 0 0 0),(5, .d (Zab o)),(7, .ptr 7 0 0 0),(8, .int k)]) (λ k=>[(1, .cells [.int n, .d (Zae ls), .d (Zaj ar), .d (Zae cs)]),(2, .cells [.int 0, .nilS]),(7, .cells [.int n, .ref 901 2 0 k k]),(901, .row 2 (((cs.take k).map Zcx).map Za0))]) (λ k=>cs.length-k) 0 ?_ ?_ ?_
  ·exact⟨uH _,λ j y h=>by omega⟩
  ·exact kN (kc2 @yX.{0} @yH.{0,0}) []
  ·rintro k ⟨hk,hinv⟩;rcases uE k cs.length with hlt|hge
   ·obtain⟨c,hc0⟩:=Zac hlt;by_cases hsc:c.length<2
    ·have:cs.any Zem=true:=ZcE hc0 (by simpa[Zem]using hsc);rw[this];refine kw1 kO (kc1 hc0) kc0 ?_;refine⟨_,rfl,⟨_,_,_,_,rfl,?_⟩,rfl,Zah rfl,trivial⟩;simp(disch:=omega) only[go_sem,simprocAttr,toD];rfl
    ·have hcl:c.length<=9223372036854775807:=by have:=Zqb (m:=c.map D.int) (k:=k) 0 3 hat rfl rfl (by rw[uI,hc0];rfl);rwa [uC]at this
     have e1:=ZaG (r:=c) (i:=0) (by omega);have e2:=ZdK (r:=c) (v:=(c.length:Int)-1) (by omega) (by omega);have hts:=ZaA hc0;have hlk:(((cs.take k).map Zcx).map Za0).length=k:=by rw[uC,uC,yJ];omega
     have htk:List.take k (((cs.take k).map Zcx).map Za0)=((cs.take k).map Zcx).map Za0:=uD (by rw[hlk];exact uJ _);refine kw1 kO (kc4 hc0 e1 e2 hlk) kc0 ?_;refine⟨k+1,?_,kN (kc3 hts @uQ.{0,0} htk) [(901,73)],?_⟩
     ·exact⟨by omega,Zbr hinv hc0 (by simpa[Zem]using hsc)⟩
     ·omega
   ·have:k=cs.length:=by omega
    subst this;have hsc:cs.any Zem=false:=Zc2 λ j y hj=>hinv j y hj
    try dsimp only
    rw[yE,hsc,if_pos (by decide)];have hlA:((cs.map Zcx).map Za0).length=cs.length:=by simp
    refine kw1 kO kc0 kc0 ?_;refine⟨_,rfl,⟨_,_,_,_,rfl,?_⟩,?_,Zah rfl,trivial⟩
    ·simp(disch:=omega) only[go_sem,simprocAttr,toD,hlA,uJ,qR];rw[uD (by rw[hlA];exact uJ _)]
    ·exact Zcm (by rw[Ap])
theorem ZtY {a:Lv}(h:(Zcs a).2.2=true):a.2.1.length<=256/\tot a.2.1<=512:=by
 rw[Zcs]at h;split at h
 ·cases h
 ·rename_i o ho;rw[Zcz]at ho;split at ho
  ·cases ho
  ·omega
theorem ZCj (a:Lv)(hw:wide a):Zaa Tryz.prog 15 [lvD a] (.bool (Zjf a)):=by
 have hs:=Zv9 a hw;have hb:=ZCh (Zcs a).1 (Zcs a).2.1;have hm:=ZCl (Zay (Zcs a).1 (Zcs a).2.1).1 (ZcX a);rcases h1:(Zcs a).2.2 with _|_
 ·rw[h1]at hs;rw[Zjf,h1];refine kE Tryz.func15 ?_;intro hat B X w0;refine kw1 kO kc0 (kc1 hs) ?_;exact Zah rfl
 ·rw[h1]at hs;rw[Zjf,h1];obtain⟨t1,t2⟩:=ZtY h1;have hp:=ZBO a (by omega) (λ y hy=>by have:=Zdq hy;omega);generalize Zcs a=S at*;generalize Zay S.1 S.2.1=BF at*;obtain⟨b,e⟩:=BF;dsimp only at hb hm|-;by_cases he:e=0
  ·subst he;rcases hsv:ZfA b (ZcX a)with _|_<;>rw[hsv]at hm
   all_goals
    refine kE Tryz.func15 ?_;intro hat B X w0;refine kw1 kO kc0 (kc4 hs hb hp hm) ?_;exact Zah rfl
  ·refine kE Tryz.func15 ?_;intro hat B X w0;refine kw1 kO (kc1 he) (kc4 hs hb hp hm) ?_;refine Zah ?_;simp[he]
end Go.Proofs.YtjjbhjnpeenbkaaGreatDoor
namespace Go.Proofs.YtjjbhjnpeenbkaaGreatDoor
open Go Go.PS Go.Proofs
theorem Zif :∀{l m:List Int},l.Nodup->(∀x,x∈l->x∈m)->l.length<=m.length
 |[],m,_,_=>uH _
 |x::l,m,hn,hs=>by
  have hx:x∈m:=hs x (by simp);have h1:=jV hx;have h2:0<m.length:=zH hx;have hn2:=yW.1 hn;have:=Zif (l:=l) (m:=m.erase x) hn2.2 (λ y hy=>by
   have hne:y≠x:=λ e=>hn2.1 (e▸hy)
   exact(zX hne).2 (hs y (uO _ hy)))
  simp only[yB];omega
def below (c:Nat):List Int:=(List.range c).map λ n:Nat=>(n:Int)
theorem Zqi (c:Nat):(below c).length=c:=by simp[below]
theorem Zla {c:Nat}{v:Int}:v∈below c↔0<=v/\v<c:=by
 simp only[below,uP,uZ];constructor
 ·rintro⟨n,h,rfl⟩;omega
 ·intro h;exact⟨v.toNat,by omega,by omega⟩
theorem ZwR (c:Nat):(below c).Nodup:=by
 refine List.Pairwise.map _ ?_ (kT (n:=c));intro a b h;omega
theorem ZAK {c:Nat}{l:List Int}(hn:l.Nodup)(hb:∀v,v∈l->0<=v/\v<c)(hl:l.length=c)(v:Int)(h0:0<=v)(h1:v<c):v∈l:=by
 by_cases h:v∈l
 ·exact h
 ·have:=Zif (l:=v::l) (m:=below c) (yW.2 ⟨h,hn⟩) (λ x hx=>by
   rcases yF.1 hx with rfl|hx
   ·exact Zla.2 ⟨h0,h1⟩
   ·exact Zla.2 (hb x hx))
  rw[Zqi,yB]at this;omega
theorem Zi1 {A:List Int}{k:Nat}{v:Int}:v∈Za6 A k↔0<=v/\A[v.toNat]? =some (k:Int):=by
 simp only[Za6,uP,zQ,uZ,uF];constructor
 ·rintro⟨n,⟨h1,h2⟩,rfl⟩;exact⟨by omega,by rw[uM];exact h2⟩
 ·rintro⟨h1,h2⟩;exact⟨v.toNat,⟨(uB.1 h2).1,h2⟩,by omega⟩
theorem ZzL (A:List Int)(k:Nat):(Za6 A k).Pairwise (·<·):=by
 refine List.Pairwise.map (R:=(·<·)) _ ?_ ((kK (n:=A.length)).filter _);intro a b h;omega
theorem Zse {A:List Int}{M k:Nat}(h:k<M):(ZbH A M)[k]? =some (Za6 A k):=by simp[ZbH,h]
section layers
variable {A:List Int}{M:Nat}
theorem ZnY (hA:∀n:Nat,n<A.length->0<=at0 A n/\at0 A n<M){v:Int}:v∈(ZbH A M).flatten↔0<=v/\v<A.length:=by
 simp only[ZbH,zK,uP,uZ];constructor
 ·rintro⟨y,⟨k,hk,rfl⟩,hv⟩;obtain⟨h1,h2⟩:=Zi1.1 hv;have:=(uB.1 h2).1;omega
 ·rintro⟨h1,h2⟩;have h3:=hA v.toNat (by omega);refine⟨_,⟨(at0 A v.toNat).toNat,by omega,rfl⟩,Zi1.2 ⟨h1,?_⟩⟩;rw[ZaG (by omega)]
  congr 1;omega
theorem ZnZ :(ZbH A M).flatten.Nodup:=by
 refine jC.2 ⟨λ y hy=>?_,?_⟩
 ·obtain⟨k,_,rfl⟩:=uP.1 hy;exact(ZzL A k).imp (λ h=>by omega)
 ·refine List.Pairwise.map _ ?_ (kK (n:=M));intro a b h x hx y hy e;subst e;have h1:=(Zi1.1 hx).2;rw[(Zi1.1 hy).2,yI]at h1;omega
theorem ZzS (hA:∀n:Nat,n<A.length->0<=at0 A n/\at0 A n<M):tot (ZbH A M)=A.length:=by
 rw[<-Zmp];have h1:=Zif (l:=(ZbH A M).flatten) (m:=below A.length) ZnZ (λ x hx=>Zla.2 ((ZnY hA).1 hx));have h2:=Zif (l:=below A.length) (m:=(ZbH A M).flatten) (ZwR _) (λ x hx=>(ZnY hA).2 (Zla.1 hx));rw[Zqi]at h1 h2;omega
theorem Zsf (hA:∀n:Nat,n<A.length->0<=at0 A n/\at0 A n<M){n:Nat}(h:n<A.length):Zav (ZbH A M) n=at0 A n:=by
 have h3:=hA n h;have hk:(ZbH A M)[(at0 A n).toNat]? =some (Za6 A (at0 A n).toNat):=Zse (by omega);have hm:((n:Nat):Int)∈Za6 A (at0 A n).toNat:=Zi1.2 ⟨by omega,by rw[uM,ZaG h];congr 1;omega⟩;rw[Zav,Zex hk (gF.2 ⟨_,hm,by simp⟩)]
 ·show(((at0 A n).toNat:Nat):Int)=_;omega
 ·intro j y hj hy;rw[Zse (by omega)]at hy;cases hy;rw[yS];intro x hx hxn;have:x=n:=by simpa using hxn
  subst this;have h4:=(Zi1.1 hx).2;rw[uM,ZaG h,yI]at h4;omega
theorem ZzQ (hA:∀n:Nat,n<A.length->0<=at0 A n/\at0 A n<M):Zc6 A.length (ZbH A M)=true:=by
 rw[Zgv];exact⟨λ v hv=>(ZnY hA).1 hv,ZnZ⟩
theorem ZzR (hA:∀n:Nat,n<A.length->0<=at0 A n/\at0 A n<M):Zcr A.length (ZbH A M)=A:=by
 refine qA λ u=>?_
 by_cases hu:u<A.length
 ·rw[Zjj hu,Zsf hA hu,ZaG hu]
 ·rw[uN (by rw[Zel];omega),uN (by omega)]
end layers
theorem Zmg (ls:List (List Int)):(ls.map ZaM).flatten.Perm ls.flatten:=by
 induction ls with
 |nil=>exact .refl _
 |cons y ls ih=>simp only[uT,Au];exact(ZhC y).append ih
theorem ZEr (ls:List (List Int)):tot (ls.map ZaM)=tot ls:=by
 rw[<-Zmp,<-Zmp];exact(Zmg ls).length_eq
theorem Zo5 (ls:List (List Int))(v:Int):Zav (ls.map ZaM) v=Zav ls v:=by
 rw[Zav,Zav,List.findIdx?_map]
 congr 2
 funext y
 show(ZaM y).any _=y.any _;rw[qV,gF,gF];constructor
 ·rintro⟨x,h1,h2⟩;exact⟨x,(ZhC y).mem_iff.1 h1,h2⟩
 ·rintro⟨x,h1,h2⟩;exact⟨x,(ZhC y).mem_iff.2 h1,h2⟩
theorem ZEo (c:Nat)(ls:List (List Int)):Zc6 c (ls.map ZaM)=Zc6 c ls:=by
 rw[qV,Zgv,Zgv,(Zmg ls).nodup_iff];constructor
 ·rintro⟨h1,h2⟩;exact⟨λ v hv=>h1 v ((Zmg ls).mem_iff.2 hv),h2⟩
 ·rintro⟨h1,h2⟩;exact⟨λ v hv=>h1 v ((Zmg ls).mem_iff.1 hv),h2⟩
theorem ZEq (c:Nat)(ls:List (List Int)):Zcr c (ls.map ZaM)=Zcr c ls:=by simp only[Zcr,Zo5]
theorem ZEp (ls:List (List Int)):Zcz (ls.map ZaM)=Zcz ls:=by
 rw[Zcz,Zcz,uC,ZEr,ZEo,ZEq]
def ZfZ (g:Gr)(r:List Int):Nat:=if g.1=0 then 0 else(ZcN r (r.length-1)+1).toNat
structure Built (g:Gr)(r:List Int):Prop where
 eq:Zay g r=(Zfa g r,0)
 gok:gOk g=true
 len:(r.length:Int)=g.1
 rk:∀v:Nat,0<=at0 r v/\at0 r v<=255
 loop:∀a,a∈g.2->a.1≠a.2
 gap:∀(k:Nat) a,g.2[k]? =some a->0<=at0 r a.2-at0 r a.1-1
 big:g.1+Zba r g.2 g.2.length<=512
theorem built {g:Gr}{r:List Int}(h:(Zay g r).2=0):Built g r:=by
 rw[Zay]at h;split at h
 ·cases h
 ·rename_i h1;have h1:Zeh g r=true:=by simpa using h1
  obtain⟨g1,g2,g3,g4⟩:=Zl4 h1;split at h
  ·cases h
  ·rename_i h2;split at h
   ·cases h
   ·rename_i h3;split at h
    ·cases h
    ·rename_i h4;refine⟨?_,g1,g2,g4,λ a ha=>?_,λ k a ha=>?_,by omega⟩
     ·rw[Zay,h1,if_neg (by decide),if_neg h2,if_neg h3,if_neg h4]
     ·have:=yS.1 (zV.2 h2) a ha;simpa[ZdU]using this
     ·have:=yS.1 (zV.2 h3) a (uA ha);rw[ZcY,uF]at this;omega
theorem Zn4 (g:Gr)(r:List Int):(Zfa g r).2.1=ZbH (Zas r g.2 g.2.length) (ZfZ g r):=by
 rw[Zfa,ZfZ];split
 ·rfl
 ·rfl
theorem ZwG {l:List Int}{P:Int->Prop}(h:∀x,x∈l->P x)(n:Nat)(hn:n<l.length):P (at0 l n):=h _ (uA (ZaG hn))
namespace Built
variable {g:Gr}{r:List Int}
theorem ends (b:Built g r){k:Nat}{a:Arc}(h:g.2[k]? =some a):0<=a.1/\a.1<g.1/\0<=a.2/\a.2<g.1:=(ZjU b.gok).2.2.2 k a h
theorem high (b:Built g r)(hp:0<r.length):(ZfZ g r:Int)=ZcN r (r.length-1)+1:=by
 have h1:=Zi4 r (r.length-1) 0 (by omega);have h2:=b.rk 0;have h3:=b.len;rw[ZfZ,if_neg (by omega)];omega
theorem high_le (b:Built g r):ZfZ g r<=256:=by
 have h2:=ZlJ (λ j=>(b.rk j).2) (r.length-1);rw[ZfZ];split<;>omega
theorem rk_lt (b:Built g r){n:Nat}(h:n<r.length):at0 r n<ZfZ g r:=by
 have:=Zi4 r (r.length-1) n (by omega);rw[b.high (by omega)];omega
theorem vals (b:Built g r):∀n:Nat,n<(Zas r g.2 g.2.length).length->0<=at0 (Zas r g.2 g.2.length) n/\at0 (Zas r g.2 g.2.length) n<ZfZ g r:=by
 refine λ n hn=>ZwG (P:=λ x=>0<=x/\x<ZfZ g r) ?_ n hn
 intro x hx;rw[Zas,yE,yK]at hx;rcases hx with hx|hx
 ·obtain⟨k,hk⟩:=yU hx;have hkl:=(uB.1 hk).1;rw[ZaG hkl]at hk;cases hk;exact⟨(b.rk k).1,b.rk_lt hkl⟩
 ·obtain⟨a,ha,hx⟩:=kU.1 hx;obtain⟨k,hk⟩:=yU ha;have he:=b.ends hk;have hg:=b.gap k a hk;have hl:=b.len;have h1:=b.rk a.1.toNat;have h2:=b.rk_lt (n:=a.2.toNat) (by omega);rw[show((a.1.toNat:Nat):Int)=a.1 by omega]at h1;rw[show((a.2.toNat:Nat):Int)=a.2 by omega]at h2;simp only[Zan,uP,uZ]at hx;obtain⟨j,hj,rfl⟩:=hx;rw[ZaI]at hj;omega
theorem all_len (b:Built g r):(Zas r g.2 g.2.length).length<=512:=by
 have h1:=Zk0 b.gap g.2.length (uJ _);have h2:=b.len;have h3:=b.big;omega
theorem all_ge (b:Built g r):r.length<=(Zas r g.2 g.2.length).length:=by simp[Zas]
theorem all_take (b:Built g r):(Zas r g.2 g.2.length).take r.length=r:=by simp[Zas]
theorem ranks (b:Built g r):Zcz (Zfa g r).2.1=some (Zas r g.2 g.2.length):=by
 have hv:=b.vals;have hl:=b.all_len;rw[Zn4,Zcz,ZnX,ZzS hv,if_neg (by have:=b.high_le;omega),ZzQ hv,if_pos rfl,ZzR hv]
end Built
theorem ZkJ {a:Lv}(h:Zar a=true):ZfY a=true/\a.2.2.2.any Zem=false/\Zgs a=true/\(Zay (ZaE a) (ZaL a)).2=0/\ZcX a=(Zay (ZaE a) (ZaL a)).1:=by
 simp only[Zar,uL,yC,uF,Zma]at h;obtain⟨⟨⟨⟨h1,h2⟩,h3⟩,h4⟩,h5⟩:=h;exact⟨h1,h2,h3,h4,h5⟩
theorem Zgf {a:Lv}(h:Zar a=true):Built (ZaE a) (ZaL a)/\ZcX a=Zfa (ZaE a) (ZaL a)/\Zcz a.2.1=some (Zas (ZaL a) (ZaE a).2 (ZaE a).2.length):=by
 obtain⟨h1,h2,h3,h4,h5⟩:=ZkJ h;have b:=built h4;rw[b.eq]at h5;refine⟨b,h5,?_⟩;rw[<-ZEp];have:a.2.1.map ZaM=(Zfa (ZaE a) (ZaL a)).2.1:=qU (λ x:Lv=>x.2.1) h5;rw[this,b.ranks]
theorem Zvw {a:Lv}(h:Zar a=true):Zcs a=(ZaE a,ZaL a,true):=by
 obtain⟨h1,h2,h3,h4,h5⟩:=ZkJ h;obtain⟨b,hm,hr⟩:=Zgf h;simp only[ZfY,uF]at h1;have hl:=b.len;have hge:=b.all_ge;have e1:(ZaE a).1=a.1:=rfl;rw[Zcs,hr];dsimp only;rw[if_pos]
 ·have:=b.all_take;rw[show a.1.toNat=(ZaL a).length by omega,this]
 ·simp only[ZhD,uL,uF,h2,Aw,and_true];omega
theorem ZEu {a:Lv}(h:(Zcs a).2.2=true):∃o,Zcz a.2.1=some o/\ZhD a o=true/\Zcs a=(ZaE a,o.take a.1.toNat,true):=by
 rw[Zcs]at h|-;split at h
 ·cases h
 ·rename_i o ho;split at h
  ·rename_i hs;refine⟨o,ho,hs,?_⟩;rw[if_pos hs]
  ·cases h
theorem Zhj {ls:List (List Int)}{o:List Int}(h:Zcz ls=some o):ls.length<=256/\tot ls<=512/\Zc6 (tot ls) ls=true/\o=Zcr (tot ls) ls:=by
 rw[Zcz]at h;split at h
 ·cases h
 ·split at h
  ·cases h;exact⟨by omega,by omega,by assumption,rfl⟩
  ·cases h
theorem ZyX {ls:List (List Int)}(h:Zc6 (tot ls) ls=true){v:Int}(h0:0<=v)(h1:v<tot ls):0<=Zav ls v:=by
 rw[Zgv]at h;exact Ze9.2 (ZAK h.2 h.1 (Zmp ls) v h0 h1)
theorem ZFu (a:Lv):Zar a=Zjf a:=by
 rw[qV];constructor
 ·intro h;have hs:=Zvw h;obtain⟨h1,h2,h3,h4,h5⟩:=ZkJ h;rw[Zjf,hs];simp only[h4,h5,kH,Zma,Ax,Ct]
 ·intro h;simp only[Zjf,uL,uF,Zma]at h;obtain⟨⟨h1,h2⟩,h3⟩:=h;obtain⟨o,ho,hso,hsf⟩:=ZEu h1;obtain⟨t1,t2,t3,rfl⟩:=Zhj ho;simp only[ZhD,uL,uF,yC,Zel]at hso;obtain⟨⟨s1,s2,s3,s4⟩,s5⟩:=hso;have hrv:(Zcr (tot a.2.1) a.2.1).take a.1.toNat=ZaL a:=by
   rw[Zcr,<-Ap,List.take_range,jE (by omega),ZaL]
  rw[hsf,hrv]at h2 h3;dsimp only at h2 h3;have hfo:Zgs a=true:=by
   rw[Zgs,yC,yS];intro v hv;have:=ZyX t3 (v:=v) (by omega) (by have:=uZ.1 hv;omega);simp only[Zh8,uF];omega
  simp only[Zar,ZfY,s5,hfo,h2,h3,Zma,uL,uF,Aw,and_true,Ax];omega
end Go.Proofs.YtjjbhjnpeenbkaaGreatDoor
