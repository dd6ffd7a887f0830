/- Levels: where a vertex lies, sorted layers. -/
import Derived.Test.YtjjbhjnpeenbkaaGreatDoorC
import Derived.Test.YtjjbhjnpeenbkaaGreatDoorA
set_option linter.unusedSimpArgs false
set_option linter.unusedVariables false
set_option maxHeartbeats 16000000
namespace Go.Proofs.YtjjbhjnpeenbkaaGreatDoor
open Go Go.PS Go.Proofs
set_option maxRecDepth 100000
attribute [local irreducible] Zad wpG Zaa Zah
def ZaS (ls:List (List Int))(v:Int):Int:=Zc6 (ls.findIdx? λ y=>y.any λ x=>decide (x=v))
def Zn2 (ls:List (List Int))(v:Int):Int:=match ls.findIdx? (λ y=>y.any λ x=>decide (x=v))with
 |some k=>placeF ((ls[k]?).getD []) v
 |none=>-1
theorem ZsB (l:List Int)(v:Int):decide (0<=placeF l v)=l.any λ x=>decide (x=v):=ZhU _ l
theorem Zjy (a:Lv)(v:Int):Zaa Tryz.prog 106 [lvD a, .int v] (.tup [.int (ZaS a.2.1 v), .int (Zn2 a.2.1 v)]):=by
 obtain⟨n,ls,ar,cs⟩:=a;refine kE Tryz.func106 ?_;intro hat B X w0;have hl:=Zb7 0 1 hat rfl rfl;rw[uD]at hl;dsimp only at hl;refine kw1 kO kc0 kc0 ?_;refine Zae (λ(k:Nat)=>k<=ls.length/\∀(j:Nat) y,j<k->ls[j]? =some y->(y.any λ x=>decide (x=v))=false) (λ k=>[(1, .int v),(2, .ptr 2 0 0 0),(10, .d (Zag ls)),(11, .int ls.length),(12, .int k)]) (λ k=>[(2, .cells [.int n, .d (Zag ls), .d (Zal ar), .d (Zag cs)])]) (λ k=>ls.length-k) 0 ?_ ?_ ?_
 ·exact⟨uG _,λ j y h=>by omega⟩
 ·exact kN kc0 []
 ·rintro k ⟨hk,hinv⟩;rcases uC k ls.length with hlt|hge
  ·obtain⟨p,hp⟩:=Zac hlt;have hix:=Zld p v;have hpi:=ZsB p v;by_cases h0:0<=placeF p v
   ·rw[yB h0]at hpi;have hf:ls.findIdx? (λ y=>y.any λ x=>decide (x=v))=some k:=Zfk hp hpi.symm hinv;refine kw1 kO (kc1 hp) (kc1 hix) ?_;refine⟨_,rfl,Zaf ?_,Zaf ?_,trivial⟩
    ·dsimp only[ZaS];rw[hf];rfl
    ·dsimp only[Zn2];rw[hf];dsimp only;rw[hp];rfl
   ·rw[uU h0]at hpi;refine kw1 kO (kc1 hp) (kc1 hix) ?_;refine⟨k+1,?_,kN kc0 [],?_⟩
    ·exact⟨by omega,Zbj hinv hp hpi.symm⟩
    ·omega
  ·have hf:ls.findIdx? (λ y=>y.any λ x=>decide (x=v))=none:=ZfW λ j y hy=>hinv j y (by have:=(uB.1 hy).1;omega) hy
   refine kw1 kO kc0 kc0 ?_;refine⟨_,rfl,Zaf ?_,Zaf ?_,trivial⟩
   ·dsimp only[ZaS];rw[hf];rfl
   ·dsimp only[Zn2];rw[hf]
def ZcT (a:Lv):Lv:=(a.1,a.2.1.map ZaK,a.2.2.1,a.2.2.2)
theorem ZDb (a:Lv)(hn:a.2.1.length<=1000)(hl:∀y,y∈a.2.1->y.length*8<=140737488351232):Zaa Tryz.prog 108 [lvD a] (lvD (ZcT a)):=by
 obtain⟨n,ls,ar,cs⟩:=a;dsimp only at hn hl;refine kE Tryz.func108 ?_;intro hat B X w0;refine kw1 kO kc0 kc0 ?_;refine Zaq _ (Zqx 9 ls.length rfl) ?_;refine Zae (λ(k:Nat)=>k<=ls.length) (λ k=>[(1, .ptr 1 0 0 0),(2, .ptr 2 0 0 0),(3, .ref 9 1 0 ls.length ls.length),(11, .d (Zag ls)),(12, .int ls.length),(13, .int k)]) (λ k=>[(1, .cells [.int n, .d (Zag ls), .d (Zal ar), .d (Zag cs)]),(2, .cells [.int 0, .nilS, .nilS, .nilS]),(9, .row 1 (((ls.map ZaK).take k).map Zab++List.replicate (ls.length-k) (.sl [])))]) (λ k=>ls.length-k) 0 ?_ ?_ ?_
 ·exact uG _
 ·exact kN (kc4 @yU.{0} @yE.{0,0} @gL.{0} @zN) []
 ·intro k hk;rcases uC k ls.length with hlt|hge
  ·obtain⟨p,hp⟩:=Zac hlt;have hpl:=hl p (uA hp);have hv:=Zme p;have hs:=Zmd p (by omega);have hm:(ls.map ZaK)[k]? =some (ZaK p):=by rw[uJ,hp];rfl
   have hst:(((ls.map ZaK).take k).map Zab++List.replicate (ls.length-k) (D.sl [])).set k (Zab (ZaK p))=((ls.map ZaK).take (k+1)).map Zab++List.replicate (ls.length-(k+1)) (D.sl []):=by
    have hlk:(((ls.map ZaK).take k).map Zab).length=k:=by rw[uD,yF,uD];omega
    have e:ls.length-k=(ls.length-(k+1))+1:=by omega
    rw[Cg,hlk,if_neg (by omega),jF,e,zL,kJ,ZaA hm,uR,qJ];rfl
   have hLn:(((ls.map ZaK).take k).map Zab++List.replicate (ls.length-k) (D.sl [])).length=ls.length:=by
    rw[uH,uD,yF,uD,qX];omega
   have hgk:(((ls.map ZaK).take k).map Zab++List.replicate (ls.length-k) (D.sl []))[k]? =some (D.sl []):=by
    rw[qG (by rw[uD,yF,uD];omega),uD,yF,uD,jM (by omega),jF,qT,if_pos (by omega)]
   refine kw1 kO (kc3 hp hLn hgk) (kc2 hv hs) ?_;refine⟨k+1,?_,kN (kc1 hst) [],?_⟩
   ·omega
   ·omega
  ·have:k=ls.length:=by omega
   subst this;have htl:((ls.map ZaK).take ls.length)=ls.map ZaK:=uE (by rw[uD];exact uI _)
   try dsimp only
   rw[htl,jF];refine kw1 kO kc0 kc0 ?_;refine⟨_,_,_,_,rfl,?_⟩;simp(disch:=omega) only[go_sem,simprocAttr,toD,Ch,yT,uD,uE];rw[uE (by rw[uD,uD];exact uI _)];rfl
def ZcD (o:List Int)(x:Int):Nat->Nat
 |0=>0
 |k+1=>if x<at0 o k then ZcD o x k else k+1
theorem ZmW (o:List Int)(x:Int):∀k,ZcD o x k<=k
 |0=>uI _
 |k+1=>by rw[ZcD];have:=ZmW o x k;split<;>omega
def ZeY (o:List Int)(x:Int):List Int:=o.take (ZcD o x o.length)++[x]++o.drop (ZcD o x o.length)
theorem Zx9 (o:List Int)(x:Int):(ZeY o x).length=o.length+1:=by
 have:=ZmW o x o.length;simp only[ZeY,uH,yF,Af,uX,uW];omega
def ZdK (l:List Int):Nat->List Int
 |0=>[]
 |k+1=>ZeY (ZdK l k) (at0 l k)
theorem Zrb (l:List Int):∀k,(ZdK l k).length=k
 |0=>rfl
 |k+1=>by rw[ZdK,Zx9,Zrb l k]
theorem ZzP (r:List Int)(k:Nat):∀d,d∈(List.map D.int r).take k->d.cells.length=1:=λ d hd=>Zha r d (gW hd)
theorem ZzN (r:List Int)(k:Nat):∀d,d∈(List.map D.int r).drop k->d.cells.length=1:=λ d hd=>Zha r d (zD hd)
theorem ZzO (r:List Int)(k j:Nat):∀d,d∈((List.map D.int r).drop k).take j->d.cells.length=1:=λ d hd=>Zha r d (zD (gW hd))
theorem ZA5 (l:List Int)(hl:l.length<=1000):Zaa Tryz.prog 114 [Zab l] (Zab (ZdK l l.length)):=by
 refine kE Tryz.func114 ?_;intro hat B X w0;refine kw1 kO kc0 kc0 ?_;refine Zaq _ (Zc3 3 900 1 rfl rfl) ?_;refine Zae (λ(i:Nat)=>i<=l.length) (λ i=>[(0, .d (Zab l)),(3, .ref 900 1 0 i i),(4, .int i)]) (λ i=>[(900, .row 1 ((ZdK l i).map D.int))]) (λ i=>l.length-i) 0 ?_ ?_ ?_
 ·exact uG _
 ·exact kN (kc2 @ZdK.eq_1 @yE.{0,0}) []
 ·intro i hi;have hil:=Zrb l i;rcases uC i l.length with hlt|hge
  ·have gi:=at0_at hlt;have his:ZdK l (i+1)=ZeY (ZdK l i) (at0 l i):=rfl;generalize at0 l i=x at gi his;generalize hO:ZdK l i=O at hil his|-;refine kw1 kO kc0 kc0 ?_;refine Zae (λ(k:Nat)=>k<=i/\ZcD O x k=ZcD O x i) (λ k=>[(0, .d (Zab l)),(3, .ref 900 1 0 i i),(4, .int i),(5, .int k)]) (λ k=>[(900, .row 1 (O.map D.int))]) (λ k=>k) i ?_ ?_ ?_
   ·exact⟨uI _,rfl⟩
   ·exact kN kc0 []
   ·rintro k ⟨hk,hinv⟩;rcases qU k with h0|h0
    ·subst h0;have en:((0:Nat):Int).toNat=0:=rfl;have hmn:min 0 i=0:=by omega
     have htO:List.take i (List.map D.int O)=List.map D.int O:=uE (by rw[uD];omega);have htl:(List.map D.int O).length=i:=by rw[uD,hil]
     refine kw1 (kow (Nat.beq 31) (b:=true)) (kc8 gi en hk hil @qN.{0} @gL.{0} @zN (kc5 @List.take_take.{0} @Nat.min_self hmn htO htl)) kc0 ?_;have hins:ZeY O x=x::O:=by rw[ZeY,hil,<-hinv];simp[ZcD]
     refine⟨i+1,?_,kN (kc3 his hins @uS.{0,0}) [(900,47)],?_⟩
     ·omega
     ·omega
    ·obtain⟨k,rfl⟩:∃m,k=m+1:=⟨k-1,by omega⟩;have gk:=at0_at (r:=O) (i:=k) (by omega);have ek:(((k+1:Nat):Int)-1).toNat=k:=by omega
     have en:(((k+1:Nat):Int)).toNat=k+1:=by omega
     have hmn:min (k+1) i=k+1:=by omega
     have htl:(List.take (k+1) (List.map D.int O)).length=k+1:=by rw[yF,uD];omega
     have htO:List.take (i-(k+1)) (List.drop (k+1) (List.map D.int O))=List.drop (k+1) (List.map D.int O):=uE (by rw[Af,uD];omega);have htd:(List.drop (k+1) (List.map D.int O)).length=i-(k+1):=by rw[Af,uD];omega
     have hif:k+1+(i-(k+1))=i:=by omega
     have ht2:List.take (k+1+1) (List.take (k+1) (List.map D.int O)++[D.sc (Value.int IntKind.i64 x)])=List.take (k+1) (List.map D.int O)++[D.int x]:=uE (by rw[uH,htl];exact uI _);rw[ZcD]at hinv;by_cases hx:x<at0 O k
     ·rw[if_pos hx]at hinv;refine kw1 kO (kc3 gi gk ek) kc0 ?_;refine⟨k,?_,kN (kc3 @qQ @gY @Cq) [],?_⟩
      ·exact⟨by omega,hinv⟩
      ·omega
     ·rw[if_neg hx]at hinv
      repeat' first|refine ZbH rfl ?_|refine Za0 ?_|refine ZgH (Nat.beq 31) ZcE ?_|(refine ZbM rfl rfl (λ hc=>?_) (λ hc=>?_)<;>try simp only[hcL]at hc)|(refine ZbL _ rfl rfl (λ hc=>?_) (λ hc=>?_)<;>(try simp only[hcL]at hc)<;>try omega)|simp(disch:=omega) only[go_sem,simprocAttr,gi,gk,ek,en,roomy,hk,hil,qN,gL,zN,List.take_take,Nat.min_self,hmn,htO,htl,htd,hif,uI,uH,uX,uW,qM]|(first|exact Zha _|exact ZzP _ _|exact ZzN _ _|exact ZzO _ _ _)|apply And.intro|omega|decide+kernel
      have hins:ZeY O x=O.take (k+1)++[x]++O.drop (k+1):=by rw[ZeY,hil,<-hinv]
      refine⟨i+1,?_,eL [(900,47)] _ _ (by refine⟨?_,?_⟩<;>(repeat' first|exact fmn|refine fmc ⟨(by first|rfl|(simp(disch:=omega) only[go_sem,simprocAttr,inL,his,hins,ht2,uR,Ao,List.map_drop];first|done|omega|(congr 1;done))),?_⟩);done),?_⟩
      ·omega
      ·omega
  ·have:i=l.length:=by omega
   subst this;refine kw1 kO kc0 kc0 ?_;exact Zch (o:=900) rfl rfl (by simp[hil]) (uE (by simp[hil]))
theorem Zqp (o:List Int)(x:Int):∀(k j:Nat),ZcD o x k<=j->j<k->x<at0 o j
 |0,j,_,h=>by omega
 |k+1,j,h1,h2=>by
  rw[ZcD]at h1;split at h1
  ·rename_i hx;rcases uC j k with h|h
   ·exact Zqp o x k j h1 h
   ·rw[show j=k by omega];exact hx
  ·omega
theorem Zqq (o:List Int)(x:Int):∀(k p:Nat),ZcD o x k=p+1->at0 o p<=x
 |0,p,h=>by rw[ZcD]at h;omega
 |k+1,p,h=>by
  rw[ZcD]at h;split at h
  ·exact Zqq o x k p h
  ·rename_i hx;rw[show p=k by omega];omega
theorem Zya (o:List Int)(x:Int):(ZeY o x).Perm (x::o):=by
 rw[ZeY,qJ,List.singleton_append];refine Be.trans ?_;rw[gI]
theorem Zyb {o:List Int}(h:o.Pairwise (·<=·))(x:Int):(ZeY o x).Pairwise (·<=·):=by
 have hlo:∀a,a∈o.take (ZcD o x o.length)->a<=x:=by
  intro a ha;obtain⟨j,hj⟩:=gN.1 ha;rw[qF]at hj;split at hj
  ·rename_i hjp;obtain⟨p,hp⟩:∃p,ZcD o x o.length=p+1:=⟨ZcD o x o.length-1,by omega⟩;have h1:=Zqq o x o.length p hp;have h2:=ZmW o x o.length;have h3:=at0_at (r:=o) (i:=p) (by omega);rcases uC j p with hl|hl
   ·have h4:=(uB.1 hj);obtain⟨h5,h6⟩:=h4;obtain⟨h7,h8⟩:=uB.1 h3;have:=gM.1 h j p h5 h7 hl;rw[h6,h8]at this;exact zC this h1
   ·have:j=p:=by omega
    subst this;rw[h3]at hj;cases hj;exact h1
  ·cases hj
 have hhi:∀a,a∈o.drop (ZcD o x o.length)->x<=a:=by
  intro a ha;obtain⟨j,hj⟩:=gN.1 ha;rw[gA]at hj;have hlt:ZcD o x o.length+j<o.length:=(uB.1 hj).1;have h1:=Zqp o x o.length (ZcD o x o.length+j) (by omega) hlt;rw[at0_at hlt]at hj;cases hj;omega
 rw[ZeY];refine gH.2 ⟨gH.2 ⟨h.sublist (List.take_sublist _ _),zJ _ _,λ a ha b hb=>?_⟩,h.sublist (List.drop_sublist _ _),λ a ha b hb=>?_⟩
 ·rw[uT.1 hb];exact hlo a ha
 ·rcases yO.1 ha with ha|ha
  ·exact zC (hlo a ha) (hhi b hb)
  ·rw[uT.1 ha];exact hhi b hb
theorem Zrc (l:List Int):∀k,k<=l.length->(ZdK l k).Perm (l.take k)
 |0,_=>by simp[ZdK]
 |k+1,h=>by
  rw[ZdK,ZaA (at0_at (r:=l) (i:=k) (by omega))];exact(Zya _ _).trans (((Zrc l k (by omega)).cons _).trans (List.perm_append_singleton _ _).symm)
theorem Zrd (l:List Int):∀k,(ZdK l k).Pairwise (·<=·)
 |0=>List.Pairwise.nil
 |k+1=>by rw[ZdK];exact Zyb (Zrd l k) _
theorem Zou (l:List Int):(ZaK l).Pairwise (·<=·):=by
 have h:=List.pairwise_mergeSort (le:=λ x y:Int=>decide (x<=y)) (by intro a b c h1 h2;simp only[uF]at*;omega) (by intro a b;simp only[qZ,uF];omega) l;exact h.imp λ h=>by simpa using h
theorem Zhu (l:List Int):(ZaK l).Perm l:=List.mergeSort_perm _ _
theorem Zra (l:List Int):ZdK l l.length=ZaK l:=by
 refine Bm (le:=(·<=·)) (λ a b _ _ h1 h2=>Int.le_antisymm h1 h2) (Zrd l _) (Zou l) ?_;have:=Zrc l l.length (uI _);rw[yH]at this;exact this.trans (Zhu l).symm
theorem ZA4 (l:List Int)(hl:l.length<=1000):Zaa Tryz.prog 114 [Zab l] (Zab (ZaK l)):=Zra l▸ZA5 l hl
theorem ZAu (a:Lv)(hn:a.2.1.length<=1000)(hl:∀y,y∈a.2.1->y.length<=1000):Zaa Tryz.prog 56 [lvD a] (lvD (ZcT a)):=by
 obtain⟨n,ls,ar,cs⟩:=a;dsimp only at hn hl;refine kE Tryz.func56 ?_;intro hat B X w0;refine kw1 kO kc0 kc0 ?_;refine Zaq _ (Zb9 3 1 901 1 rfl rfl rfl) ?_;refine Zae (λ(k:Nat)=>k<=ls.length) (λ k=>[(1, .ptr 1 0 0 0),(2, .ptr 2 0 0 0),(3, .ptr 3 0 0 0),(4, .int k)]) (λ k=>[(1, .cells [.int n, .d (Zag ls), .d (Zal ar), .d (Zag cs)]),(2, .cells [.int 0, .nilS, .nilS, .nilS]),(3, .cells [.int n, .ref 901 1 0 k k, .d (Zal ar), .d (Zag cs)]),(901, .row 1 (((ls.map ZaK).take k).map Zab))]) (λ k=>ls.length-k) 0 ?_ ?_ ?_
 ·exact uG _
 ·exact kN (kc2 @yU.{0} @yE.{0,0}) []
 ·intro k hk;rcases uC k ls.length with hlt|hge
  ·obtain⟨p,hp⟩:=Zac hlt;have hpl:=hl p (uA hp);have hs:=ZA4 p hpl;have hm:(ls.map ZaK)[k]? =some (ZaK p):=by rw[uJ,hp];rfl
   have hts:=ZaA hm;have hlk:(((ls.map ZaK).take k).map Zab).length=k:=by rw[uD,yF,uD];omega
   have htk:List.take k (((ls.map ZaK).take k).map Zab)=((ls.map ZaK).take k).map Zab:=uE (by rw[hlk];exact uI _);refine kw1 kO (kc2 hp hlk) (kc1 hs) ?_;refine⟨k+1,?_,kN (kc3 hts @uR.{0,0} htk) [(901,28)],?_⟩
   ·omega
   ·omega
  ·have:k=ls.length:=by omega
   subst this;have htl:((ls.map ZaK).take ls.length)=ls.map ZaK:=uE (by rw[uD];exact uI _)
   try dsimp only
   rw[htl];refine kw1 kO kc0 kc0 ?_;refine⟨_,_,_,_,rfl,?_⟩;simp(disch:=omega) only[go_sem,simprocAttr,toD,uD];rw[uE (by rw[uD,uD];exact uI _)];rfl
theorem ZfZ (a b:Int):(if b<a then b else a)=min a b:=by omega
def Za9 (g:Nat->Int)(n k:Nat):List Int:=(List.range n).map λ u=>if u<k then g u else 0
theorem Zdw (g:Nat->Int)(n k:Nat):(Za9 g n k).length=n:=by simp[Za9]
theorem Zfj {g:Nat->Int}{n k u:Nat}(h:u<n):(Za9 g n k)[u]? =some (if u<k then g u else 0):=by simp[Za9,h]
theorem ZhR (g:Nat->Int)(n:Nat):(Za9 g n 0).map D.int=List.replicate n (D.int 0):=by
 rw[kX];refine⟨by simp[Za9],λ b hb=>?_⟩;simp only[Za9,gR,uP]at hb;obtain⟨u,_,rfl⟩:=hb;simp
theorem ZhQ {g:Nat->Int}{n k:Nat}(h:k<n):(Za9 g n k).set k (g k)=Za9 g n (k+1):=by
 refine yS λ u=>?_
 by_cases hu:u<n
 ·rw[Zfj hu,yX,Zfj hu,Zdw];by_cases c:k=u
  ·subst c;rw[if_pos rfl,if_pos h,if_pos (by omega)]
  ·rw[if_neg c];by_cases c2:u<k
   ·rw[if_pos c2,if_pos (by omega)]
   ·rw[if_neg c2,if_neg (by omega)]
 ·rw[uL (by rw[yJ,Zdw];omega),uL (by rw[Zdw];omega)]
theorem ZhP (g:Nat->Int)(n:Nat):Za9 g n n=(List.range n).map g:=by
 rw[Za9];refine yN λ u hu=>?_
 rw[if_pos (yA.1 hu)]
theorem Zpu {ds cs:List D}{l:List D}{m:List D}{k:Nat}(i j:Nat)(h:∃w X vs,Zhz w X ds vs)(hi:ds[i]? =some (.ag cs))(hj:cs[j]? =some (.sl l))(hk:l[k]? =some (.sl m)):m.length<=9223372036854775807:=by
 obtain⟨w,X,vs,h1,h2⟩:=h;have hlt:i<vs.size:=by have:=(uB.1 hi).1;omega
 have:=h2 i _ _ hi (uV hlt);generalize vs[i]=v at this;cases this with
 |ag _ arr hsz hone hat=>
  have hlt:j<arr.size:=by have:=(uB.1 hj).1;omega
  have:=hat j _ _ hj (uV hlt);generalize arr[j]=v at this;cases this with
  |slnil=>cases hk
  |sl _ b off cap sz hl hc hsz vals hv he=>
   have:=he k _ 0 _ hk rfl;generalize vals k 0=v at this;cases this with
   |slnil=>simp
   |sl _ b off cap sz hl hc=>simp only[maxLen]at hc;omega
def Zcu (c:List Int):Arc:=(at0 c 0,at0 c ((c.length:Int)-1))
def Za1 (a:Lv):Gr:=(a.1,a.2.2.2.map Zcu)
def Zbb (a:Lv):List Int:=(List.range a.1.toNat).map λ v:Nat=>ZaS a.2.1 v
def Zfo (a:Lv):Bool:=decide (0<=a.1/\a.1<=64/\a.2.2.2.length<=256/\a.2.1.length<=256)
def Zee (c:List Int):Bool:=decide (c.length<2)
def ZhX (a:Lv)(v:Nat):Bool:=decide (ZaS a.2.1 v<0)
def Zgp (a:Lv):Bool:= !(List.range a.1.toNat).any (ZhX a)
def Zaw (a:Lv):Bool:=Zfo a&& !a.2.2.2.any Zee&&Zgp a&&decide ((ZaP (Za1 a) (Zbb a)).2=0)&&Zfy (ZcT a) (ZaP (Za1 a) (Zbb a)).1
def wide (a:Lv):Prop:=∀y,y∈a.2.1->y.length*8<=152
theorem ZhD (a:Lv)(hw:wide a):Zaa Tryz.prog 51 [lvD a] (.bool (Zaw a)):=by
 have hfd:=Zjy a;have hbd:=Zo6 (Za1 a) (Zbb a);have hsd:=ZDb a;have hsm:=ZuW (ZcT a) (ZaP (Za1 a) (Zbb a)).1;obtain⟨m,ls,ar,cs⟩:=a;refine kE Tryz.func51 ?_;intro hat B X w0;have h1:=Zb7 0 1 hat rfl rfl;have h2:=Zb7 0 2 hat rfl rfl;have h3:=Zb7 0 3 hat rfl rfl;rw[uD]at h1 h2 h3;dsimp only at h1 h2 h3;refine kw kO kc0 kc0 ?_
 repeat' first|exact True.intro|refine Bn.mk ?_ ?_|intro hc
 all_goals try (refine Zai ?_;simp[Zaw,Zfo];omega)
 obtain⟨n,rfl⟩:∃n:Nat,m=n:=⟨m.toNat,by omega⟩;have hhd:Zfo ((n:Int),ls,ar,cs)=true:=by simp[Zfo];omega
 have hn64:n<=64:=by omega
 have hc256:cs.length<=256:=by omega
 have hl256:ls.length<=256:=by omega
 refine Zaq _ (Zb9 3 1 901 2 rfl rfl rfl) ?_;refine Zae (λ(k:Nat)=>k<=cs.length/\∀(j:Nat) y,j<k->cs[j]? =some y->Zee y=false) (λ k=>[(1, .ptr 1 0 0 0),(3, .ptr 3 0 0 0),(34, .d (Zag cs)),(35, .int cs.length),(36, .int k)]) (λ k=>[(1, .cells [.int n, .d (Zag ls), .d (Zal ar), .d (Zag cs)]),(3, .cells [.int n, .ref 901 2 0 k k]),(901, .row 2 (((cs.take k).map Zcu).map ZaX))]) (λ k=>cs.length-k) 0 ?_ ?_ ?_
 ·exact⟨uG _,λ j y h=>by omega⟩
 ·exact kN (kc2 @yU.{0} @yE.{0,0}) []
 ·rintro k ⟨hk,hinv⟩;rcases uC k cs.length with hlt|hge
  ·obtain⟨c,hc0⟩:=Zac hlt;by_cases hsc:c.length<2
   ·refine kw1 kO (kc1 hc0) kc0 ?_;refine Zai ?_;have:cs.any Zee=true:=Zb0 hc0 (by simpa[Zee]using hsc);simp[Zaw,this]
   ·have hcl:c.length<=9223372036854775807:=by have:=Zpu (m:=c.map D.int) (k:=k) 0 3 hat rfl rfl (by rw[uJ,hc0];rfl);rwa [uD]at this
    have e1:=at0_at (r:=c) (i:=0) (by omega);have e2:=Zdq (r:=c) (v:=(c.length:Int)-1) (by omega) (by omega);have hts:=ZaA hc0;have hlk:(((cs.take k).map Zcu).map ZaX).length=k:=by rw[uD,uD,yF];omega
    have htk:List.take k (((cs.take k).map Zcu).map ZaX)=((cs.take k).map Zcu).map ZaX:=uE (by rw[hlk];exact uI _);refine kw1 kO (kc4 hc0 e1 e2 hlk) kc0 ?_;refine⟨k+1,?_,kN (kc3 hts @uR.{0,0} htk) [(901,56)],?_⟩
    ·exact⟨by omega,Zbj hinv hc0 (by simpa[Zee]using hsc)⟩
    ·omega
  ·have:k=cs.length:=by omega
   subst this;have hsc:cs.any Zee=false:=Zck λ j y hj=>hinv j y hj
   try dsimp only
   rw[yH];refine kw1 (kow (Nat.beq 61) (b:=false)) kc0 kc0 ?_;refine Zae (λ(v:Nat)=>v<=n/\∀u,u<v->ZhX (n,ls,ar,cs) u=false) (λ v=>[(1, .ptr 1 0 0 0),(3, .ptr 3 0 0 0),(6, .ref 61 1 0 n n),(63, .int n),(64, .int v)]) (λ v=>[(1, .cells [.int n, .d (Zag ls), .d (Zal ar), .d (Zag cs)]),(3, .cells [.int n, .ref 901 2 0 cs.length cs.length]),(901, .row 2 ((cs.map Zcu).map ZaX)),(61, .row 1 ((Za9 (λ u=>ZaS ls u) n v).map D.int))]) (λ v=>n-v) 0 ?_ ?_ ?_
   ·exact⟨uG _,λ u h=>by omega⟩
   ·exact kN (kc1 @ZhR) []
   ·rintro v ⟨hv,hinv2⟩;have hfl:=Zdw (λ u=>ZaS ls u) n v;rcases uC v n with hlt|hge
    ·have hg:=Zfj (g:=λ u=>ZaS ls u) (k:=v) hlt;have hst:=ZhQ (g:=λ u=>ZaS ls u) hlt;have hsm:(List.map D.int (Za9 (λ u=>ZaS ls u) n v)).set v (D.sc (Value.int IntKind.i64 (ZaS ls v)))=List.map D.int (Za9 (λ u=>ZaS ls u) n (v+1)):=by rw[<-hst,yR]
     have hfl2:=Zdw (λ u=>ZaS ls u) n (v+1);have hg2:=Zfj (g:=λ u=>ZaS ls u) (k:=v+1) hlt;rw[if_pos (by omega)]at hg2;have hf:=hfd v;dsimp only at hf;by_cases hn:ZaS ls v<0
     ·have hfo:Zgp ((n:Int),ls,ar,cs)=false:=by
       rw[Zgp,Ak,gK];exact⟨v,by simpa using hlt,by simpa[ZhX]using hn⟩
      refine kw1 kO (kc5 hg hsm hg2 hfl hfl2) (kc1 hf) ?_;refine Zai ?_;simp[Zaw,hfo]
     ·refine kw1 kO (kc5 hg hsm hg2 hfl hfl2) (kc1 hf) ?_;refine⟨v+1,?_,kN (kc1 hsm) [],?_⟩
      ·refine⟨by omega,λ u hu=>?_⟩;rcases qB.1 hu with h|rfl
       ·exact hinv2 u h
       ·simpa[ZhX]using hn
      ·omega
    ·have:v=n:=by omega
     subst this;have hfo:Zgp ((v:Int),ls,ar,cs)=true:=by
      rw[Zgp,yI,qA];intro u hu;rw[hinv2 u (by simpa using hu)]
      decide
     have hre:Za9 (λ u=>ZaS ls u) v v=Zbb ((v:Int),ls,ar,cs):=by rw[ZhP,Zbb];rfl
     have hsg:Za1 ((v:Int),ls,ar,cs)=((v:Int),cs.map Zcu):=rfl
     try dsimp only
     rw[hre];rw[hsg]at hbd hsm;have hvf:Zaw ((v:Int),ls,ar,cs)=(decide ((ZaP ((v:Int),cs.map Zcu) (Zbb ((v:Int),ls,ar,cs))).2=0)&&Zfy (ZcT ((v:Int),ls,ar,cs)) (ZaP ((v:Int),cs.map Zcu) (Zbb ((v:Int),ls,ar,cs))).1):=by rw[Zaw,hhd,hsc,hfo,hsg];simp
     rw[hvf];have hrl:(Zbb ((v:Int),ls,ar,cs)).length=v:=by simp[Zbb]
     generalize Zbb ((v:Int),ls,ar,cs)=R at*;generalize ZaP ((v:Int),cs.map Zcu) R=BF at*;obtain⟨b,e⟩:=BF;have hsd1:=hsd (by simpa using(show ls.length<=1000 by omega)) (λ y hy=>by have:=hw y hy;omega);generalize ZcT ((v:Int),ls,ar,cs)=S at*;dsimp only at hbd hsm|-;have htA:((cs.map Zcu).map ZaX).take cs.length=(cs.map Zcu).map ZaX:=uE (by simp);have htR:(R.map D.int).take v=R.map D.int:=uE (by simp[hrl]);have hlA:((cs.map Zcu).map ZaX).length=cs.length:=by simp
     have hlR:(R.map D.int).length=v:=by simp[hrl]
     refine Zaq _ (Zc2 901 2 ((cs.map Zcu).map ZaX) rfl (ZcS _ rfl) (by decide)) ?_;refine kR (kc4 @qN.{0} htA hlA @uI) [] [(1, .ptr 1 0 0 0),(3, .ptr 3 0 0 0),(6, .ref 61 1 0 v v),(63, .int v),(64, .int v)] [(1, .cells [.int v, .d (Zag ls), .d (Zal ar), .d (Zag cs)]),(3, .cells [.int v, .d (Zal (cs.map Zcu))]),(61, .row 1 (R.map D.int))] ?_;refine Zaq _ (Zc2 61 1 (R.map D.int) rfl (ZcS _ rfl) (by decide)) ?_;by_cases he:e=0
     ·subst he;rcases hsv:Zfy S b with _|_<;>rw[hsv]at hsm
      all_goals
       refine kw1 kO (kc3 htR hlR @qN.{0}) (kc3 hbd hsd1 hsm) ?_;refine Zai ?_;simp[hsv]
     ·refine kw1 kO (kc4 he htR hlR @qN.{0}) (kc3 hbd hsd1 hsm) ?_;refine Zai ?_;simp[he]
def tot :List (List Int)->Nat
 |[]=>0
 |y::l=>y.length+tot l
theorem Zuh (l m:List (List Int)):tot (l++m)=tot l+tot m:=by
 induction l with
 |nil=>simp[tot]
 |cons y l ih=>simp only[gX,tot,ih];omega
theorem Zkr {l:List (List Int)}{k:Nat}{y:List Int}(h:l[k]? =some y):tot (l.take (k+1))=tot (l.take k)+y.length:=by
 rw[ZaA h,Zuh];simp[tot]
theorem Zi5 (l:List (List Int))(k:Nat):tot (l.take k)<=tot l:=by
 conv=>rhs;rw[<-gI k l]
 rw[Zuh];omega
theorem ZlZ (l:List (List Int)):l.flatten.length=tot l:=by
 induction l with
 |nil=>rfl
 |cons y l ih=>simp only[As,uH,tot,ih]
theorem Zde {l:List (List Int)}{y:List Int}(h:y∈l):y.length<=tot l:=by
 induction l with
 |nil=>cases h
 |cons x l ih=>
  rw[tot];rcases yD.1 h with rfl|h
  ·omega
  ·have:=ih h;omega
def Zc4 (c:Nat)(ls:List (List Int)):Bool:=ls.flatten.all (λ v=>decide (0<=v/\v<c))&&decide ls.flatten.Nodup
def Zcn (c:Nat)(ls:List (List Int)):List Int:=(List.range c).map λ v:Nat=>ZaS ls v
def Zcv (ls:List (List Int)):Option (List Int):=if 256<ls.length\/512<tot ls then none else if Zc4 (tot ls) ls then some (Zcn (tot ls) ls)else none
theorem Ze6 (c:Nat)(ls:List (List Int)):(Zcn c ls).length=c:=by simp[Zcn]
theorem Zkh {c v:Nat}(h:v<c)(ls:List (List Int)):(Zcn c ls)[v]? =some (ZaS ls v):=by simp[Zcn,h]
theorem Zgx {ls:List (List Int)}{v:Int}:0<=ZaS ls v↔v∈ls.flatten:=by
 have h:=ZhU (λ y:List Int=>y.any λ x=>decide (x=v)) ls;have:decide (0<=ZaS ls v)=true↔v∈ls.flatten:=by
  rw[ZaS,h,gK,Ah];constructor
  ·rintro⟨y,h1,h2⟩;obtain⟨x,h3,h4⟩:=gK.1 h2;have:x=v:=by simpa using h4
   exact⟨y,h1,this▸h3⟩
  ·rintro⟨y,h1,h2⟩;exact⟨y,h1,gK.2 ⟨v,h2,by simp⟩⟩
 simpa using this
theorem Znt {ls:List (List Int)}{v:Int}(h:v∉ls.flatten):ZaS ls v=-1:=by
 have h2:¬0<=ZaS ls v:=λ h1=>h (Zgx.1 h1)
 unfold ZaS at h2|-;unfold Zc6 at h2|-;split
 ·rename_i i hi;rw[hi]at h2;dsimp only at h2;omega
 ·rfl
theorem Zrr (ls:List (List Int))(y:List Int)(v:Int):ZaS (ls++[y]) v=if v∈ls.flatten then ZaS ls v else if v∈y then(ls.length:Int)else -1:=by
 by_cases h1:v∈ls.flatten
 ·rw[if_pos h1];have h2:=Zgx.2 h1;unfold ZaS at h2|-;rw[List.findIdx?_append];cases hf:ls.findIdx? (λ y=>y.any λ x=>decide (x=v))with
  |none=>rw[hf]at h2;exact absurd h2 (by decide)
  |some i=>rfl
 ·rw[if_neg h1];have h2:=Znt h1;by_cases h3:v∈y
  ·rw[if_pos h3];unfold ZaS at h2|-;rw[List.findIdx?_append];cases hf:ls.findIdx? (λ y=>y.any λ x=>decide (x=v))with
   |some i=>rw[hf]at h2;simp only[Zc6]at h2;omega
   |none=>
    have:(y.any λ x=>decide (x=v))=true:=gK.2 ⟨v,h3,by simp⟩;rw[jR,if_pos this];simp[Zc6]
  ·rw[if_neg h3];refine Znt ?_;rw[Ad,yO];rintro(h|h)
   ·exact h1 h
   ·exact h3 (by simpa using h)
def pre (ls:List (List Int))(i k:Nat):List (List Int):=ls.take i++[((ls[i]?).getD []).take k]
theorem Zxt (ls:List (List Int)){i k:Nat}{y:List Int}(h:ls[i]? =some y):ls.flatten=(pre ls i k).flatten++(y.drop k++(ls.drop (i+1)).flatten):=by
 have hd:ls.drop i=y::ls.drop (i+1):=by
  obtain⟨hi,he⟩:=uB.1 h;rw[<-he];exact qS hi
 conv=>lhs;rw[<-gI i ls,hd,Ad,As]
 rw[pre,h,Ad];simp only[yK,As,List.flatten_nil,yT]
 conv=>lhs;rw[<-gI k y]
 simp only[qJ]
theorem Zxu (ls:List (List Int)){i k:Nat}{y:List Int}{v:Int}(h:ls[i]? =some y)(hv:y[k]? =some v):(pre ls i (k+1)).flatten=(pre ls i k).flatten++[v]:=by
 simp only[pre,h,yK,Ad,As,List.flatten_nil,yT,ZaA hv,qJ]
theorem ZBM {c:Nat}(ls:List (List Int)){i k:Nat}{y:List Int}{v:Int}(h:ls[i]? =some y)(hv:y[k]? =some v)(h0:0<=v)(h1:ZaS (pre ls i k) v<0):
  (Zcn c (pre ls i k)).set v.toNat (i:Int)=Zcn c (pre ls i (k+1)):=by
 have hi:(ls.take i).length=i:=by rw[yF];have:=(uB.1 h).1;omega
 refine yS λ u=>?_
 by_cases hu:u<c
 ·rw[Zkh hu,yX,Zkh hu,Ze6];simp only[pre,h,yK,Zrr,ZaA hv,hi,yO,uT]at h1|-;by_cases e:v.toNat=u
  ·subst e;have ev:((v.toNat:Nat):Int)=v:=by omega
   rw[if_pos rfl,if_pos hu,ev];split at h1
   ·rename_i hm;have:=Zgx.2 hm;omega
   ·rename_i hm;rw[if_neg hm,if_pos (.inr rfl)]
  ·rw[if_neg e];have:¬(u:Int)=v:=by omega
   simp[this]
 ·rw[uL (by rw[yJ,Ze6];omega),uL (by rw[Ze6];omega)]
theorem Zyr (ls:List (List Int))(i:Nat)(v:Int):ZaS (pre ls i 0) v=ZaS (ls.take i) v:=by
 rw[pre,Zrr];by_cases h:v∈(ls.take i).flatten
 ·rw[if_pos h]
 ·rw[if_neg h,yU,if_neg gP,Znt h]
theorem ZBL (c:Nat)(ls:List (List Int))(i:Nat):Zcn c (pre ls i 0)=Zcn c (ls.take i):=by
 simp only[Zcn,Zyr]
theorem ZAA {ls:List (List Int)}{i:Nat}{y:List Int}(h:ls[i]? =some y):pre ls i y.length=ls.take (i+1):=by
 rw[pre,h,yK,yH,ZaA h]
theorem ZxL {c:Nat}{ls:List (List Int)}{i:Nat}:Zc4 c (pre ls i 0)=Zc4 c (ls.take i):=by
 simp[Zc4,pre]
theorem Zgs {c:Nat}{ls:List (List Int)}:Zc4 c ls=true↔(∀v∈ls.flatten,0<=v/\v<c)/\ls.flatten.Nodup:=by
 simp only[Zc4,uM,uZ,uF]
theorem ZxM {c:Nat}{ls:List (List Int)}{i k:Nat}{y:List Int}{v:Int}(h:ls[i]? =some y)(hv:y[k]? =some v)(hg:Zc4 c (pre ls i k)=true)(h0:0<=v)(h2:v<c)(h1:ZaS (pre ls i k) v<0):
  Zc4 c (pre ls i (k+1))=true:=by
 rw[Zgs]at hg|-;rw[Zxu ls h hv];have hn:v∉(pre ls i k).flatten:=λ hm=>by have:=Zgx.2 hm;omega
 refine⟨λ u hu=>?_,kV.2 ⟨hg.2,by simp,λ a ha b hb=>?_⟩⟩
 ·rcases yO.1 hu with hu|hu
  ·exact hg.1 u hu
  ·rw[uT.1 hu];exact⟨h0,h2⟩
 ·rw[uT.1 hb];rintro rfl;exact hn ha
theorem ZpA {c:Nat}{ls:List (List Int)}{i k:Nat}{y:List Int}{v:Int}(h:ls[i]? =some y)(hv:y[k]? =some v)(hb:v<0\/(c:Int)<=v\/0<=ZaS (pre ls i k) v):Zc4 c ls=false:=by
 rw[Bw];intro hg;rw[Zgs]at hg;have hd:y.drop k=v::y.drop (k+1):=by
  obtain⟨hi,he⟩:=uB.1 hv;rw[<-he];exact qS hi
 have hf:=Zxt ls (k:=k) h;rw[hd]at hf;rw[hf]at hg;have hm:=hg.1 v (by simp);rcases hb with hb|hb|hb
 ·omega
 ·omega
 ·exact(kV.1 hg.2).2.2 v (Zgx.1 hb) v (by simp) rfl
theorem ZBN (c:Nat):Zcn c []=List.replicate c (-1):=by
 rw[kX];refine⟨Ze6 _ _,λ b hb=>?_⟩;obtain⟨u,_,rfl⟩:=uP.1 hb;rfl
def Ze0 (c k:Nat):List Int:=List.replicate k (-1)++List.replicate (c-k) 0
theorem Zr8 {c k:Nat}(h:k<=c):(Ze0 c k).length=c:=by simp[Ze0];omega
theorem Zzt {c k:Nat}(h:k<c):(Ze0 c k).set k (-1)=Ze0 c (k+1):=by
 have e:c-k=(c-(k+1))+1:=by omega
 rw[Ze0,e,zL,Cg,qX,if_neg (by omega),jF,kJ,Ze0,List.replicate_succ',qJ];rfl
theorem Zzs {c k:Nat}(h:k<c):∃x,(Ze0 c k)[k]? =some x:=Zac (by rw[Zr8 (by omega)];exact h)
theorem Zzr (c:Nat):Ze0 c c=Zcn c []:=by rw[ZBN,Ze0,jF];simp
theorem Zzu (c:Nat):(Ze0 c 0).map D.int=List.replicate c (D.int 0):=by simp[Ze0]
theorem Zij (a:Lv)(hw:wide a):Zaa Tryz.prog 111 [lvD a] (.tup [Zab ((Zcv a.2.1).getD []), .bool (Zcv a.2.1).isSome]):=by
 obtain⟨m,ls,ar,cs⟩:=a;have hww:∀y,y∈ls->y.length*8<=140737488351232:=λ y hy=>by have:=hw y hy;omega
 refine kE Tryz.func111 ?_;intro hat B X w0;have h1:=Zb7 0 1 hat rfl rfl;rw[uD]at h1;dsimp only at h1;refine kw1 kO kc0 kc0 ?_;refine Zae (λ(i:Nat)=>i<=ls.length/\i<=257/\tot (ls.take i)<=512+17592186043904) (λ i=>[(1, .ptr 1 0 0 0),(4, .int (tot (ls.take i))),(5, .int i)]) (λ i=>[(1, .cells [.int m, .d (Zag ls), .d (Zal ar), .d (Zag cs)])]) (λ i=>ls.length-i) 0 ?_ ?_ ?_
 ·exact⟨uG _,by omega,by simp[tot]⟩
 ·exact kN (kc2 @yU.{0} @tot.eq_1) []
 ·rintro i ⟨hi1,hi2,hi3⟩;by_cases hgo:i<ls.length/\i<257/\tot (ls.take i)<=512
  ·obtain⟨g1,g2,g3⟩:=hgo;obtain⟨y,hy⟩:=Zac g1;have hyw:=hww y (uA hy);have hts:=Zkr hy;refine kw1 kO (kc1 hy) kc0 ?_;refine⟨i+1,?_,kN (kc2 hts @qQ) [],?_⟩
   ·exact⟨by omega,by omega,by omega⟩
   ·omega
  ·have hout:(256<ls.length\/512<tot (ls.take i))\/(i=ls.length/\ls.length<=256/\tot ls<=512):=by
    by_cases c1:i=ls.length
    ·rw[c1,yH];omega
    ·omega
   rcases hout with hno|⟨rfl,g2,g3⟩
   ·have htl:=Zi5 ls i;have hrf:Zcv ls=none:=by rw[Zcv,if_pos (by omega)]
    rw[hrf];have hlt:i<ls.length\/i=ls.length:=by omega
    rcases hlt with hlt|hlt
    all_goals
     by_cases h257:i<257
     all_goals
      refine kw kO kc0 kc0 ?_
      repeat' first|exact True.intro|refine Bn.mk ?_ ?_|intro hc
      all_goals exact⟨_,rfl,rfl,Zai rfl,trivial⟩
   ·rw[yH];have hrf:Zcv ls=if Zc4 (tot ls) ls then some (Zcn (tot ls) ls)else none:=by rw[Zcv,if_neg (by omega)]
    rw[hrf];generalize hc:tot ls=c at g3|-;refine kw1 (kow (Nat.beq 43) (b:=false)) kc0 kc0 ?_;refine Zae (λ(v:Nat)=>v<=c) (λ v=>[(1, .ptr 1 0 0 0),(4, .int c),(6, .ref 43 1 0 c c),(7, .int v)]) (λ v=>[(1, .cells [.int m, .d (Zag ls), .d (Zal ar), .d (Zag cs)]),(43, .row 1 ((Ze0 c v).map D.int))]) (λ v=>c-v) 0 ?_ ?_ ?_
    ·exact uG _
    ·exact kN (kc1 @Zzu) []
    ·intro v hv;have hnl:=Zr8 hv;rcases uC v c with hlt|hge
     ·obtain⟨x,hx⟩:=Zzs hlt;have hst:=Zzt hlt;refine kw1 kO (kc2 hx hnl) kc0 ?_;refine⟨v+1,?_,kN (kc2 @hst.symm @yR.{0,0}) [],?_⟩
      ·omega
      ·omega
     ·have:v=c:=by omega
      subst this
      try dsimp only
      rw[Zzr];refine kw1 kO kc0 kc0 ?_;refine Zae (λ(i:Nat)=>i<=ls.length/\Zc4 v (ls.take i)=true) (λ i=>[(1, .ptr 1 0 0 0),(4, .int v),(6, .ref 43 1 0 v v),(8, .int i)]) (λ i=>[(1, .cells [.int m, .d (Zag ls), .d (Zal ar), .d (Zag cs)]),(43, .row 1 ((Zcn v (ls.take i)).map D.int))]) (λ i=>ls.length-i) 0 ?_ ?_ ?_
      ·exact⟨uG _,by simp[Zc4]⟩
      ·exact kN (kc1 @yU.{0}) []
      ·rintro i ⟨hi,hgood⟩;rcases uC i ls.length with hlt|hge
       ·obtain⟨y,hy⟩:=Zac hlt;have hyw:=hww y (uA hy);refine kw1 kO (kc1 hy) kc0 ?_;refine Zae (λ(k:Nat)=>k<=y.length/\Zc4 v (pre ls i k)=true) (λ k=>[(1, .ptr 1 0 0 0),(4, .int v),(6, .ref 43 1 0 v v),(8, .int i),(9, .int k)]) (λ k=>[(1, .cells [.int m, .d (Zag ls), .d (Zal ar), .d (Zag cs)]),(43, .row 1 ((Zcn v (pre ls i k)).map D.int))]) (λ k=>y.length-k) 0 ?_ ?_ ?_
        ·exact⟨uG _,by rw[ZxL];exact hgood⟩
        ·exact kN (kc1 @ZBL) []
        ·rintro k ⟨hk,hgk⟩;rcases uC k y.length with hlk|hgk2
         ·obtain⟨x,hx⟩:=Zac hlk;have hrl:=Ze6 v (pre ls i k);by_cases hin:0<=x/\x<v
          ·have hg:=Zkh (v:=x.toNat) (c:=v) (by omega) (pre ls i k);rw[show((x.toNat:Nat):Int)=x by omega]at hg;by_cases hd:ZaS (pre ls i k) x<0
           ·have hst:=ZBM (c:=v) ls hy hx hin.1 hd;refine kw1 kO (kc4 hy hx hrl hg) kc0 ?_;refine⟨k+1,?_,kN (kc2 @hst.symm @yR.{0,0}) [],?_⟩
            ·exact⟨by omega,ZxM hy hx hgk hin.1 hin.2 hd⟩
            ·omega
           ·have hbad:=ZpA (c:=v) hy hx (.inr (.inr (by omega)));rw[hbad];refine kw1 kO (kc4 hy hx hrl hg) kc0 ?_
            all_goals exact⟨_,rfl,rfl,Zai rfl,trivial⟩
          ·have hbad:=ZpA (c:=v) hy hx (by omega);rw[hbad];refine kw kO (kc3 hy hx hrl) kc0 ?_
           repeat' first|exact True.intro|refine Bn.mk ?_ ?_|intro hc
           all_goals exact⟨_,rfl,rfl,Zai rfl,trivial⟩
         ·have:k=y.length:=by omega
          subst this;have hpf:=ZAA hy;refine kw1 kO (kc1 hy) kc0 ?_;refine⟨i+1,?_,kN (kc1 hpf) [],?_⟩
          ·exact⟨by omega,by rw[<-hpf];exact hgk⟩
          ·omega
       ·have:i=ls.length:=by omega
        subst this;rw[yH]at hgood
        try dsimp only
        rw[yH,hgood];refine kw1 kO kc0 kc0 ?_;exact⟨_,rfl,Zch (o:=43) rfl rfl (by simp[Ze6]) (uE (by simp[Ze6])),Zai rfl,trivial⟩
def Zhv (a:Lv)(o:List Int):Bool:=decide (0<=a.1/\a.1<=o.length/\a.1<=64/\a.2.2.2.length<=256)&& !a.2.2.2.any Zee
def Zco (a:Lv):Gr×List Int×Bool:=match Zcv a.2.1 with
 |none=>((0,[]),[],false)
 |some o=>if Zhv a o then(Za1 a,o.take a.1.toNat,true)else((0,[]),[],false)
def ZiV (a:Lv):Bool:=(Zco a).2.2&&decide ((ZaP (Zco a).1 (Zco a).2.1).2=0)&&Zfy (ZaP (Zco a).1 (Zco a).2.1).1 (ZcT a)
theorem ZuZ (a:Lv)(hw:wide a):Zaa Tryz.prog 54 [lvD a] (.tup [gD (Zco a).1,Zab (Zco a).2.1, .bool (Zco a).2.2]):=by
 have hr:=Zij a hw;obtain⟨m,ls,ar,cs⟩:=a;dsimp only at hr;have hsf:Zco (m,ls,ar,cs)=match Zcv ls with
  |none=>((0,[]),[],false)
  |some o=>if Zhv (m,ls,ar,cs) o then((m,cs.map Zcu),o.take m.toNat,true)else((0,[]),[],false):=rfl
 rw[hsf];rcases hrf:Zcv ls with _|o
 ·rw[hrf]at hr;dsimp only[Option.getD_none,Option.isSome_none]at hr;refine kE Tryz.func54 ?_;intro hat B X w0;refine kw1 kO kc0 (kc1 hr) ?_;refine⟨_,rfl,⟨_,_,_,_,rfl,?_⟩,rfl,Zai rfl,trivial⟩;simp(disch:=omega) only[go_sem,simprocAttr,toD];rfl
 ·rw[hrf]at hr;dsimp only[Option.getD_some,Option.isSome_some]at hr;dsimp only;have hol:o.length<=512:=by
   rw[Zcv]at hrf;split at hrf
   ·cases hrf
   ·split at hrf
    ·cases hrf;rw[Ze6];omega
    ·cases hrf
  refine kE Tryz.func54 ?_;intro hat B X w0;have h3:=Zb7 0 3 hat rfl rfl;rw[uD]at h3;dsimp only at h3;refine kw kO kc0 (kc1 hr) ?_
  repeat' first|exact True.intro|refine Bn.mk ?_ ?_|intro hc
  all_goals try
   rw[if_neg (by simp[Zhv];omega)];refine⟨_,rfl,⟨_,_,_,_,rfl,?_⟩,rfl,Zai rfl,trivial⟩;simp(disch:=omega) only[go_sem,simprocAttr,toD];rfl
  obtain⟨n,rfl⟩:∃n:Nat,m=n:=⟨m.toNat,by omega⟩;have hn1:n<=o.length:=by omega
  have hn2:n<=64:=by omega
  have hc2:cs.length<=256:=by omega
  have hso:Zhv ((n:Int),ls,ar,cs) o= !cs.any Zee:=by
   simp only[Zhv];rw[yB (by omega),kC]
  rw[hso];refine Zaq _ (Zb9 7 1 901 2 rfl rfl rfl) ?_;refine Zae (λ(k:Nat)=>k<=cs.length/\∀(j:Nat) y,j<k->cs[j]? =some y->Zee y=false) (λ k=>[(1, .ptr 1 0 0 0),(2, .ptr 2 0 0 0),(5, .d (Zab o)),(7, .ptr 7 0 0 0),(8, .int k)]) (λ k=>[(1, .cells [.int n, .d (Zag ls), .d (Zal ar), .d (Zag cs)]),(2, .cells [.int 0, .nilS]),(7, .cells [.int n, .ref 901 2 0 k k]),(901, .row 2 (((cs.take k).map Zcu).map ZaX))]) (λ k=>cs.length-k) 0 ?_ ?_ ?_
  ·exact⟨uG _,λ j y h=>by omega⟩
  ·exact kN (kc2 @yU.{0} @yE.{0,0}) []
  ·rintro k ⟨hk,hinv⟩;rcases uC k cs.length with hlt|hge
   ·obtain⟨c,hc0⟩:=Zac hlt;by_cases hsc:c.length<2
    ·have:cs.any Zee=true:=Zb0 hc0 (by simpa[Zee]using hsc);rw[this];refine kw1 kO (kc1 hc0) kc0 ?_;refine⟨_,rfl,⟨_,_,_,_,rfl,?_⟩,rfl,Zai rfl,trivial⟩;simp(disch:=omega) only[go_sem,simprocAttr,toD];rfl
    ·have hcl:c.length<=9223372036854775807:=by have:=Zpu (m:=c.map D.int) (k:=k) 0 3 hat rfl rfl (by rw[uJ,hc0];rfl);rwa [uD]at this
     have e1:=at0_at (r:=c) (i:=0) (by omega);have e2:=Zdq (r:=c) (v:=(c.length:Int)-1) (by omega) (by omega);have hts:=ZaA hc0;have hlk:(((cs.take k).map Zcu).map ZaX).length=k:=by rw[uD,uD,yF];omega
     have htk:List.take k (((cs.take k).map Zcu).map ZaX)=((cs.take k).map Zcu).map ZaX:=uE (by rw[hlk];exact uI _);refine kw1 kO (kc4 hc0 e1 e2 hlk) kc0 ?_;refine⟨k+1,?_,kN (kc3 hts @uR.{0,0} htk) [(901,73)],?_⟩
     ·exact⟨by omega,Zbj hinv hc0 (by simpa[Zee]using hsc)⟩
     ·omega
   ·have:k=cs.length:=by omega
    subst this;have hsc:cs.any Zee=false:=Zck λ j y hj=>hinv j y hj
    try dsimp only
    rw[yH,hsc,if_pos (by decide)];have hlA:((cs.map Zcu).map ZaX).length=cs.length:=by simp
    refine kw1 kO kc0 kc0 ?_;refine⟨_,rfl,⟨_,_,_,_,rfl,?_⟩,?_,Zai rfl,trivial⟩
    ·simp(disch:=omega) only[go_sem,simprocAttr,toD,hlA,uI,qN];rw[uE (by rw[hlA];exact uI _)]
    ·exact ZdB (by rw[Ao])
theorem ZsU {a:Lv}(h:(Zco a).2.2=true):a.2.1.length<=256/\tot a.2.1<=512:=by
 rw[Zco]at h;split at h
 ·cases h
 ·rename_i o ho;rw[Zcv]at ho;split at ho
  ·cases ho
  ·omega
theorem Zn7 (a:Lv)(hw:wide a):Zaa Tryz.prog 15 [lvD a] (.bool (ZiV a)):=by
 have hs:=ZuZ a hw;have hb:=ZAN (Zco a).1 (Zco a).2.1;have hm:=ZA2 (ZaP (Zco a).1 (Zco a).2.1).1 (ZcT a);rcases h1:(Zco a).2.2 with _|_
 ·rw[h1]at hs;rw[ZiV,h1];refine kE Tryz.func15 ?_;intro hat B X w0;refine kw1 kO kc0 (kc1 hs) ?_;exact Zai rfl
 ·rw[h1]at hs;rw[ZiV,h1];obtain⟨t1,t2⟩:=ZsU h1;have hp:=ZAu a (by omega) (λ y hy=>by have:=Zde hy;omega);generalize Zco a=S at*;generalize ZaP S.1 S.2.1=BF at*;obtain⟨b,e⟩:=BF;dsimp only at hb hm|-;by_cases he:e=0
  ·subst he;rcases hsv:Zfy b (ZcT a)with _|_<;>rw[hsv]at hm
   all_goals
    refine kE Tryz.func15 ?_;intro hat B X w0;refine kw1 kO kc0 (kc4 hs hb hp hm) ?_;exact Zai rfl
  ·refine kE Tryz.func15 ?_;intro hat B X w0;refine kw1 kO (kc1 he) (kc4 hs hb hp hm) ?_;refine Zai ?_;simp[he]
end Go.Proofs.YtjjbhjnpeenbkaaGreatDoor
namespace Go.Proofs.YtjjbhjnpeenbkaaGreatDoor
open Go Go.PS Go.Proofs
theorem Zh3 :∀{l m:List Int},l.Nodup->(∀x,x∈l->x∈m)->l.length<=m.length
 |[],m,_,_=>uG _
 |x::l,m,hn,hs=>by
  have hx:x∈m:=hs x (by simp);have h1:=kD hx;have h2:0<m.length:=zO hx;have hn2:=yV.1 hn;have:=Zh3 (l:=l) (m:=m.erase x) hn2.2 (λ y hy=>by
   have hne:y≠x:=λ e=>hn2.1 (e▸hy)
   exact(zX hne).2 (hs y (uN _ hy)))
  simp only[uX];omega
def below (c:Nat):List Int:=(List.range c).map λ n:Nat=>(n:Int)
theorem ZpD (c:Nat):(below c).length=c:=by simp[below]
theorem ZkS {c:Nat}{v:Int}:v∈below c↔0<=v/\v<c:=by
 simp only[below,uP,yA];constructor
 ·rintro⟨n,h,rfl⟩;omega
 ·intro h;exact⟨v.toNat,by omega,by omega⟩
theorem ZvI (c:Nat):(below c).Nodup:=by
 refine List.Pairwise.map _ ?_ (kL (n:=c));intro a b h;omega
theorem Zzz {c:Nat}{l:List Int}(hn:l.Nodup)(hb:∀v,v∈l->0<=v/\v<c)(hl:l.length=c)(v:Int)(h0:0<=v)(h1:v<c):v∈l:=by
 by_cases h:v∈l
 ·exact h
 ·have:=Zh3 (l:=v::l) (m:=below c) (yV.2 ⟨h,hn⟩) (λ x hx=>by
   rcases yD.1 hx with rfl|hx
   ·exact ZkS.2 ⟨h0,h1⟩
   ·exact ZkS.2 (hb x hx))
  rw[ZpD,uX]at this;omega
theorem ZiJ {A:List Int}{k:Nat}{v:Int}:v∈Za6 A k↔0<=v/\A[v.toNat]? =some (k:Int):=by
 simp only[Za6,uP,Am,yA,uF];constructor
 ·rintro⟨n,⟨h1,h2⟩,rfl⟩;exact⟨by omega,by rw[uK];exact h2⟩
 ·rintro⟨h1,h2⟩;exact⟨v.toNat,⟨(uB.1 h2).1,h2⟩,by omega⟩
theorem Zyt (A:List Int)(k:Nat):(Za6 A k).Pairwise (·<·):=by
 refine List.Pairwise.map (R:=(·<·)) _ ?_ ((kU (n:=A.length)).filter _);intro a b h;omega
theorem Zrs {A:List Int}{M k:Nat}(h:k<M):(ZbN A M)[k]? =some (Za6 A k):=by simp[ZbN,h]
section layers
variable {A:List Int}{M:Nat}
theorem Znw (hA:∀n:Nat,n<A.length->0<=at0 A n/\at0 A n<M){v:Int}:v∈(ZbN A M).flatten↔0<=v/\v<A.length:=by
 simp only[ZbN,Ah,uP,yA];constructor
 ·rintro⟨y,⟨k,hk,rfl⟩,hv⟩;obtain⟨h1,h2⟩:=ZiJ.1 hv;have:=(uB.1 h2).1;omega
 ·rintro⟨h1,h2⟩;have h3:=hA v.toNat (by omega);refine⟨_,⟨(at0 A v.toNat).toNat,by omega,rfl⟩,ZiJ.2 ⟨h1,?_⟩⟩;rw[at0_at (by omega)]
  congr 1;omega
theorem Zrt :(ZbN A M).flatten.Nodup:=by
 refine jK.2 ⟨λ y hy=>?_,?_⟩
 ·obtain⟨k,_,rfl⟩:=uP.1 hy;exact(Zyt A k).imp (λ h=>by omega)
 ·refine List.Pairwise.map _ ?_ (kU (n:=M));intro a b h x hx y hy e;subst e;have h1:=(ZiJ.1 hx).2;rw[(ZiJ.1 hy).2,yM]at h1;omega
theorem ZyF (hA:∀n:Nat,n<A.length->0<=at0 A n/\at0 A n<M):tot (ZbN A M)=A.length:=by
 rw[<-ZlZ];have h1:=Zh3 (l:=(ZbN A M).flatten) (m:=below A.length) Zrt (λ x hx=>ZkS.2 ((Znw hA).1 hx));have h2:=Zh3 (l:=below A.length) (m:=(ZbN A M).flatten) (ZvI _) (λ x hx=>(Znw hA).2 (ZkS.1 hx));rw[ZpD]at h1 h2;omega
theorem ZyD (hA:∀n:Nat,n<A.length->0<=at0 A n/\at0 A n<M){n:Nat}(h:n<A.length):ZaS (ZbN A M) n=at0 A n:=by
 have h3:=hA n h;have hk:(ZbN A M)[(at0 A n).toNat]? =some (Za6 A (at0 A n).toNat):=Zrs (by omega);have hm:((n:Nat):Int)∈Za6 A (at0 A n).toNat:=ZiJ.2 ⟨by omega,by rw[uK,at0_at h];congr 1;omega⟩;rw[ZaS,Zfk hk (gK.2 ⟨_,hm,by simp⟩)]
 ·show(((at0 A n).toNat:Nat):Int)=_;omega
 ·intro j y hj hy;rw[Zrs (by omega)]at hy;cases hy;rw[qA];intro x hx hxn;have:x=n:=by simpa using hxn
  subst this;have h4:=(ZiJ.1 hx).2;rw[uK,at0_at h,yM]at h4;omega
theorem ZyC (hA:∀n:Nat,n<A.length->0<=at0 A n/\at0 A n<M):Zc4 A.length (ZbN A M)=true:=by
 rw[Zgs];exact⟨λ v hv=>(Znw hA).1 hv,Zrt⟩
theorem ZyE (hA:∀n:Nat,n<A.length->0<=at0 A n/\at0 A n<M):Zcn A.length (ZbN A M)=A:=by
 refine yS λ u=>?_
 by_cases hu:u<A.length
 ·rw[Zkh hu,ZyD hA hu,at0_at hu]
 ·rw[uL (by rw[Ze6];omega),uL (by omega)]
end layers
theorem ZlT (ls:List (List Int)):(ls.map ZaK).flatten.Perm ls.flatten:=by
 induction ls with
 |nil=>exact .refl _
 |cons y ls ih=>simp only[uS,As];exact(Zhu y).append ih
theorem ZC9 (ls:List (List Int)):tot (ls.map ZaK)=tot ls:=by
 rw[<-ZlZ,<-ZlZ];exact(ZlT ls).length_eq
theorem Zow (ls:List (List Int))(v:Int):ZaS (ls.map ZaK) v=ZaS ls v:=by
 rw[ZaS,ZaS,List.findIdx?_map]
 congr 2
 funext y
 show(ZaK y).any _=y.any _;rw[qV,gK,gK];constructor
 ·rintro⟨x,h1,h2⟩;exact⟨x,(Zhu y).mem_iff.1 h1,h2⟩
 ·rintro⟨x,h1,h2⟩;exact⟨x,(Zhu y).mem_iff.2 h1,h2⟩
theorem ZC6 (c:Nat)(ls:List (List Int)):Zc4 c (ls.map ZaK)=Zc4 c ls:=by
 rw[qV,Zgs,Zgs,(ZlT ls).nodup_iff];constructor
 ·rintro⟨h1,h2⟩;exact⟨λ v hv=>h1 v ((ZlT ls).mem_iff.2 hv),h2⟩
 ·rintro⟨h1,h2⟩;exact⟨λ v hv=>h1 v ((ZlT ls).mem_iff.1 hv),h2⟩
theorem ZC8 (c:Nat)(ls:List (List Int)):Zcn c (ls.map ZaK)=Zcn c ls:=by simp only[Zcn,Zow]
theorem ZC7 (ls:List (List Int)):Zcv (ls.map ZaK)=Zcv ls:=by
 rw[Zcv,Zcv,uD,ZC9,ZC6,ZC8]
def Zgt (g:Gr)(r:List Int):Nat:=if g.1=0 then 0 else(ZcJ r (r.length-1)+1).toNat
structure Built (g:Gr)(r:List Int):Prop where
 eq:ZaP g r=(ZeZ g r,0)
 gok:gOk g=true
 len:(r.length:Int)=g.1
 rk:∀v:Nat,0<=at0 r v/\at0 r v<=255
 loop:∀a,a∈g.2->a.1≠a.2
 gap:∀(k:Nat) a,g.2[k]? =some a->0<=at0 r a.2-at0 r a.1-1
 big:g.1+Zbd r g.2 g.2.length<=512
theorem built {g:Gr}{r:List Int}(h:(ZaP g r).2=0):Built g r:=by
 rw[ZaP]at h;split at h
 ·cases h
 ·rename_i h1;have h1:Zea g r=true:=by simpa using h1
  obtain⟨g1,g2,g3,g4⟩:=ZlD h1;split at h
  ·cases h
  ·rename_i h2;split at h
   ·cases h
   ·rename_i h3;split at h
    ·cases h
    ·rename_i h4;refine⟨?_,g1,g2,g4,λ a ha=>?_,λ k a ha=>?_,by omega⟩
     ·rw[ZaP,h1,if_neg (by decide),if_neg h2,if_neg h3,if_neg h4]
     ·have:=qA.1 (Bw.2 h2) a ha;simpa[ZdN]using this
     ·have:=qA.1 (Bw.2 h3) a (uA ha);rw[ZcV,uF]at this;omega
theorem ZrV (g:Gr)(r:List Int):(ZeZ g r).2.1=ZbN (ZaE r g.2 g.2.length) (Zgt g r):=by
 rw[ZeZ,Zgt];split
 ·rfl
 ·rfl
theorem Zvv {l:List Int}{P:Int->Prop}(h:∀x,x∈l->P x)(n:Nat)(hn:n<l.length):P (at0 l n):=h _ (uA (at0_at hn))
namespace Built
variable {g:Gr}{r:List Int}
theorem ends (b:Built g r){k:Nat}{a:Arc}(h:g.2[k]? =some a):0<=a.1/\a.1<g.1/\0<=a.2/\a.2<g.1:=(ZjB b.gok).2.2.2 k a h
theorem high (b:Built g r)(hp:0<r.length):(Zgt g r:Int)=ZcJ r (r.length-1)+1:=by
 have h1:=ZiO r (r.length-1) 0 (by omega);have h2:=b.rk 0;have h3:=b.len;rw[Zgt,if_neg (by omega)];omega
theorem high_le (b:Built g r):Zgt g r<=256:=by
 have h2:=Zll (λ j=>(b.rk j).2) (r.length-1);rw[Zgt];split<;>omega
theorem rk_lt (b:Built g r){n:Nat}(h:n<r.length):at0 r n<Zgt g r:=by
 have:=ZiO r (r.length-1) n (by omega);rw[b.high (by omega)];omega
theorem vals (b:Built g r):∀n:Nat,n<(ZaE r g.2 g.2.length).length->0<=at0 (ZaE r g.2 g.2.length) n/\at0 (ZaE r g.2 g.2.length) n<Zgt g r:=by
 refine λ n hn=>Zvv (P:=λ x=>0<=x/\x<Zgt g r) ?_ n hn
 intro x hx;rw[ZaE,yH,yO]at hx;rcases hx with hx|hx
 ·obtain⟨k,hk⟩:=yW hx;have hkl:=(uB.1 hk).1;rw[at0_at hkl]at hk;cases hk;exact⟨(b.rk k).1,b.rk_lt hkl⟩
 ·obtain⟨a,ha,hx⟩:=kZ.1 hx;obtain⟨k,hk⟩:=yW ha;have he:=b.ends hk;have hg:=b.gap k a hk;have hl:=b.len;have h1:=b.rk a.1.toNat;have h2:=b.rk_lt (n:=a.2.toNat) (by omega);rw[show((a.1.toNat:Nat):Int)=a.1 by omega]at h1;rw[show((a.2.toNat:Nat):Int)=a.2 by omega]at h2;simp only[Zap,uP,yA]at hx;obtain⟨j,hj,rfl⟩:=hx;rw[ZaH]at hj;omega
theorem all_len (b:Built g r):(ZaE r g.2 g.2.length).length<=512:=by
 have h1:=ZkH b.gap g.2.length (uI _);have h2:=b.len;have h3:=b.big;omega
theorem all_ge (b:Built g r):r.length<=(ZaE r g.2 g.2.length).length:=by simp[ZaE]
theorem all_take (b:Built g r):(ZaE r g.2 g.2.length).take r.length=r:=by simp[ZaE]
theorem ranks (b:Built g r):Zcv (ZeZ g r).2.1=some (ZaE r g.2 g.2.length):=by
 have hv:=b.vals;have hl:=b.all_len;rw[ZrV,Zcv,Znv,ZyF hv,if_neg (by have:=b.high_le;omega),ZyC hv,if_pos rfl,ZyE hv]
end Built
theorem Zi6 {a:Lv}(h:Zaw a=true):Zfo a=true/\a.2.2.2.any Zee=false/\Zgp a=true/\(ZaP (Za1 a) (Zbb a)).2=0/\ZcT a=(ZaP (Za1 a) (Zbb a)).1:=by
 simp only[Zaw,uM,yI,uF,ZlN]at h;obtain⟨⟨⟨⟨h1,h2⟩,h3⟩,h4⟩,h5⟩:=h;exact⟨h1,h2,h3,h4,h5⟩
theorem Zie {a:Lv}(h:Zaw a=true):Built (Za1 a) (Zbb a)/\ZcT a=ZeZ (Za1 a) (Zbb a)/\Zcv a.2.1=some (ZaE (Zbb a) (Za1 a).2 (Za1 a).2.length):=by
 obtain⟨h1,h2,h3,h4,h5⟩:=Zi6 h;have b:=built h4;rw[b.eq]at h5;refine⟨b,h5,?_⟩;rw[<-ZC7];have:a.2.1.map ZaK=(ZeZ (Za1 a) (Zbb a)).2.1:=gB (λ x:Lv=>x.2.1) h5;rw[this,b.ranks]
theorem Zuq {a:Lv}(h:Zaw a=true):Zco a=(Za1 a,Zbb a,true):=by
 obtain⟨h1,h2,h3,h4,h5⟩:=Zi6 h;obtain⟨b,hm,hr⟩:=Zie h;simp only[Zfo,uF]at h1;have hl:=b.len;have hge:=b.all_ge;have e1:(Za1 a).1=a.1:=rfl;rw[Zco,hr];dsimp only;rw[if_pos]
 ·have:=b.all_take;rw[show a.1.toNat=(Zbb a).length by omega,this]
 ·simp only[Zhv,uM,uF,h2,Bu,Di];omega
theorem ZDc {a:Lv}(h:(Zco a).2.2=true):∃o,Zcv a.2.1=some o/\Zhv a o=true/\Zco a=(Za1 a,o.take a.1.toNat,true):=by
 rw[Zco]at h|-;split at h
 ·cases h
 ·rename_i o ho;split at h
  ·rename_i hs;refine⟨o,ho,hs,?_⟩;rw[if_pos hs]
  ·cases h
theorem ZiW {ls:List (List Int)}{o:List Int}(h:Zcv ls=some o):ls.length<=256/\tot ls<=512/\Zc4 (tot ls) ls=true/\o=Zcn (tot ls) ls:=by
 rw[Zcv]at h;split at h
 ·cases h
 ·split at h
  ·cases h;exact⟨by omega,by omega,by assumption,rfl⟩
  ·cases h
theorem ZxJ {ls:List (List Int)}(h:Zc4 (tot ls) ls=true){v:Int}(h0:0<=v)(h1:v<tot ls):0<=ZaS ls v:=by
 rw[Zgs]at h;exact Zgx.2 (Zzz h.2 h.1 (ZlZ ls) v h0 h1)
theorem ZoV (a:Lv):Zaw a=ZiV a:=by
 rw[qV];constructor
 ·intro h;have hs:=Zuq h;obtain⟨h1,h2,h3,h4,h5⟩:=Zi6 h;rw[ZiV,hs];simp only[h4,h5,kC,ZlN,Ct,Cm]
 ·intro h;simp only[ZiV,uM,uF,ZlN]at h;obtain⟨⟨h1,h2⟩,h3⟩:=h;obtain⟨o,ho,hso,hsf⟩:=ZDc h1;obtain⟨t1,t2,t3,rfl⟩:=ZiW ho;simp only[Zhv,uM,uF,yI,Ze6]at hso;obtain⟨⟨s1,s2,s3,s4⟩,s5⟩:=hso;have hrv:(Zcn (tot a.2.1) a.2.1).take a.1.toNat=Zbb a:=by
   rw[Zcn,<-Ao,List.take_range,jM (by omega),Zbb]
  rw[hsf,hrv]at h2 h3;dsimp only at h2 h3;have hfo:Zgp a=true:=by
   rw[Zgp,yI,qA];intro v hv;have:=ZxJ t3 (v:=v) (by omega) (by have:=yA.1 hv;omega);simp only[ZhX,uF];omega
  simp only[Zaw,Zfo,s5,hfo,h2,h3,ZlN,uM,uF,Bu,Di,Ct];omega
end Go.Proofs.YtjjbhjnpeenbkaaGreatDoor
