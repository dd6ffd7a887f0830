/- From the readings of a law's arguments to data, and from a law's contract to its row. -/
import Derived.KernelRfl
import Derived.Test.YtjjbhjnpeenbkaaGreatDoorPSEnd
import Derived.ProofKit
import Derived.Carry
import Derived.Deep.Slices
import Derived.SizedLaws
import Derived.OpenShut
import Derived.Test.YtjjbhjnpeenbkaaGreatDoorPSAlias
set_option linter.unusedSimpArgs false
set_option linter.unusedVariables false
set_option maxHeartbeats 16000000
namespace Go.PS
open Go Go.ChangeShapes Go.WideShapes Go.RowKit Go.Deep
def Ziy (f:TypeId->List D->Prop):List TypeId->List D->Prop
 |[],cs=>cs=[]
 |t::ts,cs=>∃p r,cs=p++r/\f t p/\Ziy f ts r
def ZbD (P:Program):Nat->TypeId->List D->Prop
 |0,_,_=>False
 |n+1,t,cs=>match P.underlying t with
  |some (.int k)=>∃m,cs=[.sc (.int k m)]/\(Lit.int k m).wf=true
  |some .bool=>∃b,cs=[.sc (.bool b)]
  |some .string=>∃s,cs=[.sc (.string s)]
  |some (.struct fs)=>Ziy (ZbD P n) (fs.toList.map (·.type)) cs
  |some (.array k e)=>Ziy (ZbD P n) (List.replicate k e) cs
  |some (.slice e)=>∃l:List D,cs=[.sl l]/\l.length*P.bytesOf e<=reachBytes/\∀d∈l,∃es,d=D.ofCells (tyi P e).agg es/\es.length=P.cellsOf e/\ZbD P n e es
  |_=>False
def ZuY (P:Program)(t:TypeId):Option (List TypeId):=match P.underlying t with
 |some (.struct fs)=>some (fs.toList.map (·.type))
 |_=>none
def ZuK (P:Program)(t:TypeId):Option TypeId:=match P.underlying t with
 |some (.slice e)=>some e
 |_=>none
theorem ZiL {P:Program}{n:Nat}{t:TypeId}{ts:List TypeId}{cs:List D}(hu:ZuY P t=some ts)(h:ZbD P (n+1) t cs):Ziy (ZbD P n) ts cs:=by
 unfold ZuY at hu;split at hu
 ·rename_i fs hf;cases hu;simp only[ZbD,hf]at h;exact h
 ·cases hu
theorem Zli {P:Program}{n:Nat}{t e:TypeId}{cs:List D}(hu:ZuK P t=some e)(h:ZbD P (n+1) t cs):
  ∃l:List D,cs=[.sl l]/\∀d∈l,∃es,d=D.ofCells (tyi P e).agg es/\es.length=P.cellsOf e/\ZbD P n e es:=by
 unfold ZuK at hu;split at hu
 ·rename_i e' hf;cases hu;simp only[ZbD,hf]at h;obtain⟨l,h1,_,h2⟩:=h;exact⟨l,h1,h2⟩
 ·cases hu
theorem Zj8 {α:Type}{f:α->D}:∀{l:List D},(∀d∈l,∃a,d=f a)->∃ys:List α,l=ys.map f
 |[],_=>⟨[],rfl⟩
 |d::l,h=>by
  obtain⟨a,rfl⟩:=h d (by simp);obtain⟨ys,rfl⟩:=Zj8 (l:=l) (λ e he=>h e (uO _ he));exact⟨a::ys,rfl⟩
def Zg6 (P:Program):Nat->List Field->Option Nat
 |k,[]=>some k
 |k,f::fs=>if f.offset=k then Zg6 P (k+P.cellsOf f.type) fs else none
def Zdb (P:Program):Nat->TypeId->Bool
 |0,_=>false
 |n+1,t=>match P.underlying t with
  |some (.int _)=>P.cellsOf t==1&& !(tyi P t).agg
  |some .bool=>P.cellsOf t==1&& !(tyi P t).agg
  |some .string=>P.cellsOf t==1&& !(tyi P t).agg
  |some (.struct fs)=>fs.toList.all (λ f=>Zdb P n f.type)&&Zg6 P 0 fs.toList==some (P.cellsOf t)&&(tyi P t).agg
  |some (.slice e)=>Zdb P n e&&P.cellsOf t==1&& !(tyi P t).agg&&P.cellsOf e != 0
  |some (.array k e)=>Zdb P n e&&k*P.cellsOf e==P.cellsOf t&&(tyi P t).agg
  |_=>false
theorem ZBN {P:Program}:∀{n:Nat} {t:TypeId},Zdb P n t=true->(tyi P t).agg=false->P.cellsOf t=1:=by
 intro n t h ha;cases n with
 |zero=>simp[Zdb]at h
 |succ n=>
  simp only[Zdb]at h;split at h<;>simp_all
theorem ZzT {P:Program}:∀(fs:List Field) (k e:Nat),Zg6 P k fs=some e->k<=e:=by
 intro fs
 induction fs with
 |nil=>intro k e h;simp[Zg6]at h;omega
 |cons f fs ih=>
  intro k e h;simp only[Zg6]at h;split at h
  ·have:=ih _ _ h;omega
  ·cases h
section reads
variable {H:Type}{enc:TypeId×Value->H}{P:Program}{w:World}{base:Nat}{spare:Nat->Bool}{held:Bool}
abbrev noX :Nat->Prop:=λ _=>False
def Fit (w:World)(ds:List D)(cs:List Value):Prop:=ds.length=cs.length/\∀(j:Nat) d v,ds[j]? =some d->cs[j]? =some v->D.At w noX d v/\v.oneCell'=true
theorem Fit.nil :Fit w [] []:=⟨rfl,by simp⟩
theorem Fit.append {ds es:List D}{cs vs:List Value}(h1:Fit w ds cs)(h2:Fit w es vs):Fit w (ds++es) (cs++vs):=by
 refine⟨by simp[h1.1,h2.1],λ j d v hj hv=>?_⟩;rw[jB]at hj hv;rw[h1.1]at hj;split at hj
 ·rename_i hlt;rw[if_pos hlt]at hv;exact h1.2 j d v hj hv
 ·rename_i hlt;rw[if_neg hlt]at hv;exact h2.2 _ d v hj hv
theorem Fit.cells {es:List D}{vs:List Value}(h:Fit w es vs):∀e∈es,e.cells=[e]:=by
 intro e he;obtain⟨j,hj⟩:=yU he;have hl:=(uB.1 hj).1;have hv:vs[j]? =some (vs[j]'(by rw[<-h.1];exact hl)):=uR _;obtain⟨h1,h2⟩:=h.2 j e _ hj hv;exact h1.single h2
theorem Zol {agg:Bool}{es:List D}{vs:List Value}(h:Fit w es vs)(ha:agg=false->es.length=1):(D.ofCells agg es).cells=es:=by
 unfold D.ofCells;cases agg with
 |true=>rfl
 |false=>
  match es,ha rfl,h with
  |[e],_,h=>exact h.cells e (by simp)
def ZeX (P:Program)(t:TypeId)(d:DataW H):Prop:=(d.weights P t).all (·<=reachBytes)=true
theorem Zo1 {e:TypeId}:∀{l:List (DataW H)},(DataW.weightsAll P e l).all (·<=reachBytes)=true->∀d∈l,ZeX P e d
 |[],_,d,hd=>by cases hd
 |x::l,h,d,hd=>by
  simp only[DataW.weightsAll,List.all_append,uL]at h;rcases yF.1 hd with rfl|hd
  ·exact h.1
  ·exact Zo1 h.2 d hd
theorem ZuH {ts:List TypeId}{ds:List (DataW H)}(h:(DataW.weightsEach P ts ds).all (·<=reachBytes)=true){j:Nat}{t:TypeId}{d:DataW H}(ht:ts[j]? =some t)(hd:ds[j]? =some d):ZeX P t d:=
 uX.2 λ n hn=>uX.1 h n (DataW.weights_mem_each ht hd n hn)
theorem Zyv {n m:Nat}{cs:List Value}(ih:∀(t:TypeId) (cs:List Value) x,Zdb P n t=true->DataW.trod enc P w base spare held m t cs=some x->ZeX P t x.1->∃ds,ZbD P n t ds/\Fit w ds cs):
  ∀(fs:List Field) (k e:Nat),Zg6 P k fs=some e->e=cs.length->(∀f∈fs,Zdb P n f.type=true)->
   (∀f∈fs,∃x,DataW.trod enc P w base spare held m f.type ((cs.drop f.offset).take (P.cellsOf f.type))=some x/\ZeX P f.type x.1)->
   ∃ds,Ziy (ZbD P n) (fs.map (·.type)) ds/\Fit w ds (cs.drop k):=by
 intro fs
 induction fs with
 |nil=>
  intro k e h he _ _;simp only[Zg6,yI]at h;refine⟨[],rfl,?_⟩;rw[kI (by omega)];exact Fit.nil
 |cons f fs ihf=>
  intro k e h he hp hr;simp only[Zg6]at h;split at h
  ·rename_i hoff;have hle:=ZzT _ _ _ h;obtain⟨x,hx,hxs⟩:=hr f (by simp);obtain⟨d1,g1,g2⟩:=ih f.type _ x (hp f (by simp)) hx hxs;obtain⟨d2,g3,g4⟩:=ihf _ _ h he (λ f' hf'=>hp f' (uO _ hf')) (λ f' hf'=>hr f' (uO _ hf'));refine⟨d1++d2,⟨d1,d2,rfl,g1,g3⟩,?_⟩;rw[hoff]at g2;have:=g2.append g4;rw[<-List.drop_drop,gJ]at this;exact this
  ·cases h
theorem ZBu {n m:Nat}{cs:List Value}{e:TypeId}(ih:∀(t:TypeId) (cs:List Value) x,Zdb P n t=true->DataW.trod enc P w base spare held m t cs=some x->ZeX P t x.1->∃ds,ZbD P n t ds/\Fit w ds cs)(hp:Zdb P n e=true):
  ∀(k j:Nat),(k+j)*P.cellsOf e=cs.length->
   (∀i,i<k+j->∃x,DataW.trod enc P w base spare held m e ((cs.drop (i*P.cellsOf e)).take (P.cellsOf e))=some x/\ZeX P e x.1)->
   ∃ds,Ziy (ZbD P n) (List.replicate k e) ds/\Fit w ds (cs.drop (j*P.cellsOf e)):=by
 intro k
 induction k with
 |zero=>
  intro j h _;refine⟨[],rfl,?_⟩;rw[kI (by rw[qT]at h;omega)];exact Fit.nil
 |succ k ihk=>
  intro j h hr;obtain⟨x,hx,hxs⟩:=hr j (by omega);obtain⟨d1,g1,g2⟩:=ih e _ x hp hx hxs;obtain⟨d2,g3,g4⟩:=ihk (j+1) (by rw[<-h];congr 1;omega) (λ i hi=>hr i (by omega));refine⟨d1++d2,⟨d1,d2,rfl,g1,g3⟩,?_⟩;have:=g2.append g4;rw[qJ,Nat.one_mul,<-List.drop_drop,gJ]at this;exact this
theorem ZE3 :∀(n:Nat) (t:TypeId) (m:Nat) (cs:List Value) x,Zdb P n t=true->DataW.trod enc P w base spare held m t cs=some x->ZeX P t x.1->∃ds,ZbD P n t ds/\Fit w ds cs:=by
 intro n
 induction n with
 |zero=>intro t m cs x h;simp[Zdb]at h
 |succ n ih=>
  intro t m cs x hp h hsz;simp only[Zdb]at hp;simp only[ZbD];split at hp
  ·rename_i k hu;simp only[hu];obtain⟨q,rfl,rfl,hw⟩:=DataW.trod_int hu h;refine⟨[.sc (.int k q)],⟨q,rfl,hw⟩,rfl,λ j d v hj hv=>?_⟩;rcases j with _|j<;>simp at hj hv
   subst hj;subst hv;exact⟨.sc _ rfl,rfl⟩
  ·rename_i hu;simp only[hu];obtain⟨b,rfl,rfl⟩:=DataW.trod_bool hu h;refine⟨[.sc (.bool b)],⟨b,rfl⟩,rfl,λ j d v hj hv=>?_⟩;rcases j with _|j<;>simp at hj hv
   subst hj;subst hv;exact⟨.sc _ rfl,rfl⟩
  ·rename_i hu;simp only[hu];obtain⟨s,rfl,_⟩:=DataW.trod_string hu h;refine⟨[.sc (.string s)],⟨s,rfl⟩,rfl,λ j d v hj hv=>?_⟩;rcases j with _|j<;>simp at hj hv
   subst hj;subst hv;exact⟨.sc _ rfl,rfl⟩
  ·rename_i fs hu;simp only[hu];simp only[uL,uX,zL]at hp;obtain⟨xs,m',rfl,hxe,hlen,hxl,hf⟩:=DataW.trod_struct hu h;obtain⟨ds,g1,g2⟩:=Zyv (cs:=cs) (λ t cs x=>ih t m' cs x) fs.toList 0 _ hp.1.2 hlen.symm hp.1.1 (λ f hfm=>by
    obtain⟨i,hi⟩:=yU hfm;have hi':fs[i]? =some f:=by simpa using hi
    have hil:i<xs.length:=by rw[hxl];exact(gB.1 hi').1
    refine⟨xs[i],(hf i f hi').trans (uR hil),?_⟩;rw[ZeX,hxe]at hsz;simp only[DataW.weights,hu]at hsz;exact ZuH hsz (j:=i) (by rw[uI,hi];rfl) (by rw[uI,uR hil];rfl))
   exact⟨ds,g1,by simpa using g2⟩
  ·rename_i e hu;simp only[hu];simp only[uL,zL,yC,Cu,ne_eq]at hp;obtain⟨⟨⟨hpe,_⟩,_⟩,hne⟩:=hp;rcases open_slice hu h with⟨rfl,rfl⟩|⟨a,len,cap,q,m',Dd,Pl,rfl,hb,hl,hm,hq,hxe,hi⟩
   ·refine⟨[.sl []],⟨[],rfl,by simp,by simp⟩,rfl,λ j d v hj hv=>?_⟩;rcases j with _|j<;>simp at hj hv
    subst hj;subst hv;exact⟨.slnil _ _,rfl⟩
   ·have hlq:len<=q:=by rw[hq];split<;>omega
    rw[ZeX,hxe]at hsz;simp only[DataW.weights,hu,List.all_cons,uL,List.all_append,uF,uC,zU]at hsz;have hszl:len*P.bytesOf e<=reachBytes:=gP (yO _ (Nat.le_add_right _ _)) hsz.1;have hex:∀i,i<len->∃es vs,ZbD P n e es/\Fit w es vs/\vs.length=P.cellsOf e/\∀j,j<P.cellsOf e->w.cell? ((a.add (i*P.cellsOf e)).add j)=vs[j]? :=by
     intro i hil;obtain⟨cs',hc,ht⟩:=hi i (by omega);obtain⟨es,h1,h2⟩:=ih e m' cs' _ hpe ht (Zo1 hsz.2.1 _ (uP.2 ⟨i,uZ.2 hil,rfl⟩));obtain⟨_,hcl,hat⟩:=World.cells?_some hc;exact⟨es,cs',h1,h2,hcl,hat⟩
    have hall:∃l:List (List D),l.length=len/\∀i es,l[i]? =some es->∃vs,ZbD P n e es/\Fit w es vs/\vs.length=P.cellsOf e/\∀j,j<P.cellsOf e->w.cell? ((a.add (i*P.cellsOf e)).add j)=vs[j]? :=by
     have:∀k,k<=len->∃l:List (List D),l.length=k/\∀i es,l[i]? =some es->∃vs,ZbD P n e es/\Fit w es vs/\vs.length=P.cellsOf e/\∀j,j<P.cellsOf e->w.cell? ((a.add (i*P.cellsOf e)).add j)=vs[j]? :=by
      intro k
      induction k with
      |zero=>intro _;exact⟨[],rfl,by simp⟩
      |succ k ihk=>
       intro hk;obtain⟨l,h1,h2⟩:=ihk (by omega);obtain⟨es,vs,h3⟩:=hex k (by omega);refine⟨l++[es],by simp[h1],λ i es' hi'=>?_⟩;rw[jB]at hi';split at hi'
       ·exact h2 i es' hi'
       ·rename_i hge;have hik:i-l.length=0:=by
         have:=(uB.1 hi').1;simp at this;omega
        rw[hik]at hi';simp at hi';subst hi';have:i=k:=by omega
        subst this;exact⟨vs,h3⟩
     exact this len (uJ _)
    obtain⟨l,hll,hlat⟩:=hall;have hagg:(tyi P e).agg=false->P.cellsOf e=1:=ZBN hpe;refine⟨[.sl (l.map (D.ofCells (tyi P e).agg))],⟨_,rfl,by rw[uC,hll];exact hszl,λ d hd=>?_⟩,rfl,λ j d v hj hv=>?_⟩
    ·obtain⟨es,hes,rfl⟩:=uP.1 hd;obtain⟨i,hi'⟩:=yU hes;obtain⟨vs,h1,h2,h3,_⟩:=hlat i es hi';exact⟨es,rfl,by rw[h2.1,h3],h1⟩
    ·rcases j with _|j<;>simp at hj hv
     subst hj;subst hv;refine⟨?_,rfl⟩;by_cases hz:len=0
     ·subst hz;have:l=[]:=qI hll;subst this;exact .slnil _ _
     ·
      have h0:a.spot=none:=by
       obtain⟨es,hes⟩:=Zac (l:=l) (k:=0) (by omega);obtain⟨vs,h1,h2,h3,h4⟩:=hlat 0 es hes;have hc:=h4 0 (by omega);have hv:vs[0]? =some (vs[0]'(by omega)):=uR _;rw[hv]at hc;simp only[jK]at hc;unfold World.cell? at hc;split at hc
       ·split at hc
        ·cases hc
        ·rename_i hs;cases hsp:a.spot with
         |none=>rfl
         |some s=>simp[Addr.add,hsp]at hs
       ·cases hc
      obtain⟨b,off,sp⟩:=a;simp only at h0;subst h0;have hadd:∀i j,((⟨b,off,none⟩:Addr).add i).add j=⟨b,off+i+j,none⟩:=λ i j=>by rw[ZdJ,ZdJ]
      have:=D.At.sl (w:=w) (X:=noX) (l.map (D.ofCells (tyi P e).agg)) b off cap (P.cellsOf e) (by simp[hll,hl]) hm (λ d hd=>by
        obtain⟨es,hes,rfl⟩:=uP.1 hd;obtain⟨i,hi'⟩:=yU hes;obtain⟨vs,h1,h2,h3,_⟩:=hlat i es hi';rw[Zol h2 (λ h=>by rw[h2.1,h3];exact hagg h),h2.1,h3])
       (λ i j=>(w.cell? ⟨b,off+i*P.cellsOf e+j,none⟩).getD undef)
       (λ i d j c hi' hj=>by
        rw[uI]at hi';cases hes:l[i]? with
        |none=>rw[hes]at hi';cases hi'
        |some es=>
         rw[hes]at hi';cases hi';obtain⟨vs,h1,h2,h3,h4⟩:=hlat i es hes;rw[Zol h2 (λ h=>by rw[h2.1,h3];exact hagg h)]at hj;have hjl:=(uB.1 hj).1;rw[h2.1,h3]at hjl;have hv:vs[j]? =some (vs[j]'(by omega)):=uR _;have hc:=h4 j hjl;rw[hadd,hv]at hc;rw[hc];exact⟨rfl,(h2.2 j c _ hj hv).2,λ h=>h⟩)
       (λ i d j c hi' hj=>by
        rw[uI]at hi';cases hes:l[i]? with
        |none=>rw[hes]at hi';cases hi'
        |some es=>
         rw[hes]at hi';cases hi';obtain⟨vs,h1,h2,h3,h4⟩:=hlat i es hes;rw[Zol h2 (λ h=>by rw[h2.1,h3];exact hagg h)]at hj;have hjl:=(uB.1 hj).1;rw[h2.1,h3]at hjl;have hv:vs[j]? =some (vs[j]'(by omega)):=uR _;have hc:=h4 j hjl;rw[hadd,hv]at hc;rw[hc];exact(h2.2 j c _ hj hv).1)
      simp only[uC,hll]at this;exact this
  ·rename_i k e hu;simp only[hu];simp only[uL,zL]at hp;obtain⟨xs,m',rfl,hxe,hlen,hxl,hf⟩:=DataW.trod_array hu h;obtain⟨ds,g1,g2⟩:=ZBu (cs:=cs) (λ t cs x=>ih t m' cs x) hp.1.1 k 0 (by rw[gX,hp.1.2,hlen]) (λ i hi=>by
    have hil:i<xs.length:=by omega
    refine⟨xs[i],(hf i (by omega)).trans (uR hil),?_⟩;rw[ZeX,hxe]at hsz;simp only[DataW.weights,hu]at hsz;exact Zo1 hsz _ (uP.2 ⟨xs[i],jO hil,rfl⟩))
   exact⟨ds,g1,by simpa using g2⟩
  ·cases hp
theorem ZAW {r:Reach}{b0:Nat}{t:TypeId}{v:Value}{k:Nat}{e:TypeId}(ht:P.underlying t=some (.array k e))(h:Value.okWide P w r b0 t v):∃cs,v= .agg cs/\cs.size=P.cellsOf t:=by
 unfold Value.okWide at h;rw[ht]at h;obtain⟨cs,h1,h2,_⟩:=h;exact⟨cs,h1,h2⟩
def Zjx (P:Program)(t:TypeId)(x:D):Prop:=∃cs,ZbD P 8 t cs/\x=D.ofCells (tyi P t).agg cs
theorem Zwy {r:Reach}{b0:Nat}{t:TypeId}{v:Value}{d:DataW H}{p:List MemPlace}(hp:Zdb P 8 t=true)(hv:Value.okWide P w r b0 t v)(h:DataW.Trod enc P w base spare held t v d p)(hsz:ZeX P t d):
  ∃x,Zjx P t x/\D.At w noX x v:=by
 obtain⟨fuel,hf⟩:=h;obtain⟨ds,h1,h2⟩:=ZE3 8 t fuel _ _ hp hf hsz;refine⟨_,⟨ds,h1,rfl⟩,?_⟩
 replace hp:Zdb P (7+1) t=true:=hp
 rw[Zdb]at hp;split at hp
 ·rename_i k hu;simp only[uL,zL,yC]at hp;obtain⟨q,rfl⟩:=okWide_int hu hv;have hl:=h2.1
  match ds,hl,h2 with
  |[e],_,h2=>rw[hp.2];exact(h2.2 0 e _ rfl rfl).1
 ·rename_i hu;simp only[uL,zL,yC]at hp;obtain⟨q,rfl⟩:=okWide_bool hu hv;have hl:=h2.1
  match ds,hl,h2 with
  |[e],_,h2=>rw[hp.2];exact(h2.2 0 e _ rfl rfl).1
 ·rename_i hu;simp only[uL,zL,yC]at hp;obtain⟨q,rfl⟩:=okWide_string hu hv;have hl:=h2.1
  match ds,hl,h2 with
  |[e],_,h2=>rw[hp.2];exact(h2.2 0 e _ rfl rfl).1
 ·rename_i fs hu;simp only[uL]at hp;obtain⟨cs,rfl,hsz⟩:=okWide_struct hu hv;rw[hp.2];have hl:ds.length=cs.size:=by have:=h2.1;simpa[Value.cells]using this
  refine .ag ds cs hl.symm (λ j v hj=>?_) (λ j e v hj hv=>?_)
  ·have hjl:=(gB.1 hj).1;exact(h2.2 j _ v (uR (by omega)) (by simpa[Value.cells]using hj)).2
  ·exact(h2.2 j e v hj (by simpa[Value.cells]using hv)).1
 ·rename_i e hu;simp only[uL,zL,yC]at hp;obtain⟨a,len,cap,rfl⟩:=okWide_slice hu hv;have hl:=h2.1
  match ds,hl,h2 with
  |[e],_,h2=>rw[hp.1.2];exact(h2.2 0 e _ rfl rfl).1
 ·rename_i k e hu;simp only[uL]at hp;obtain⟨cs,rfl,hsz⟩:=ZAW hu hv;rw[hp.2];have hl:ds.length=cs.size:=by have:=h2.1;simpa[Value.cells]using this
  refine .ag ds cs hl.symm (λ j v hj=>?_) (λ j e v hj hv=>?_)
  ·have hjl:=(gB.1 hj).1;exact(h2.2 j _ v (uR (by omega)) (by simpa[Value.cells]using hj)).2
  ·exact(h2.2 j e v hj (by simpa[Value.cells]using hv)).1
 ·cases hp
theorem Zwz {r:Reach}{b0:Nat}:∀(ts:List TypeId) (vs:List Value) (ds:List (DataW H)) (p:List MemPlace),(∀t∈ts,Zdb P 8 t=true)->(∀(j:Nat) t v,ts[j]? =some t->vs[j]? =some v->Value.okWide P w r b0 t v)->
  DataW.TrodAll enc P w base spare held ts vs ds p->(∀(j:Nat) t d,ts[j]? =some t->ds[j]? =some d->ZeX P t d)->∃xs:List D,xs.length=ts.length/\vs.length=ts.length/\ds.length=ts.length/\(∀(j:Nat) t x,ts[j]? =some t->xs[j]? =some x->Zjx P t x)/\∀(j:Nat) x v,xs[j]? =some x->vs[j]? =some v->D.At w noX x v:=by
 intro ts
 induction ts with
 |nil=>
  intro vs ds p _ _ h _;cases vs<;>cases ds<;>simp[DataW.TrodAll]at h
  exact⟨[],rfl,rfl,rfl,by simp,by simp⟩
 |cons t ts ih=>
  intro vs ds p hp hv h hsz;cases vs with
  |nil=>simp[DataW.TrodAll]at h
  |cons v vs=>
   cases ds with
   |nil=>simp[DataW.TrodAll]at h
   |cons d ds=>
    obtain⟨p1,q1,h1,h2,_⟩:=h;obtain⟨x,g1,g2⟩:=Zwy (hp t (by simp)) (hv 0 t v rfl rfl) h1 (hsz 0 t d rfl rfl);obtain⟨xs,e1,e2,e3,e4,e5⟩:=ih vs ds q1 (λ t' ht'=>hp t' (uO _ ht')) (λ j t' v' hj hv'=>hv (j+1) t' v' (by simpa using hj) (by simpa using hv')) h2 (λ j t' d' hj hd'=>hsz (j+1) t' d' (by simpa using hj) (by simpa using hd'));refine⟨x::xs,by simp[e1],by simp[e2],by simp[e3],λ j t' x' hj hx=>?_,λ j x' v' hj hv'=>?_⟩
    ·cases j with
     |zero=>simp at hj hx;subst hj;subst hx;exact g1
     |succ j=>exact e4 j t' x' (by simpa using hj) (by simpa using hx)
    ·cases j with
     |zero=>simp at hj hv';subst hj;subst hv';exact g2
     |succ j=>exact e5 j x' v' (by simpa using hj) (by simpa using hv')
theorem ZwA (hl:laidOutB P=true){W W':World}(hb:Below W.heap.size W W'):∀(ts:List TypeId) (vs:List Value) (ds:List (DataW H)) (p:List MemPlace),(∀t∈ts,P.readableRec t=true/\t<P.types.size)->(∀x∈p,x.block<W.heap.size)->
  DataW.TrodAll enc P W 0 (λ _=>true) true ts vs ds p->DataW.TrodAll enc P W' 0 (λ b=>decide (b<W.heap.size)) true ts vs ds p:=by
 intro ts
 induction ts with
 |nil=>intro vs ds p _ _ h;cases vs<;>cases ds<;>simp[DataW.TrodAll]at h|-;exact h
 |cons t ts ih=>
  intro vs ds p hr hlt h;cases vs with
  |nil=>simp[DataW.TrodAll]at h
  |cons v vs=>
   cases ds with
   |nil=>simp[DataW.TrodAll]at h
   |cons d ds=>
    obtain⟨p1,q1,h1,h2,rfl⟩:=h;exact⟨p1,q1,Below.trod hl (hr t (by simp)).1 (hr t (by simp)).2 h1 hb (λ x hx=>hlt x (by simp[hx])),ih vs ds q1 (λ t' ht'=>hr t' (uO _ ht')) (λ x hx=>hlt x (by simp[hx])) h2,rfl⟩
end reads
end Go.PS
namespace Go.Bd
def sm (f:Nat->Int):Nat->Int
 |0=>0
 |k+1=>sm f k+f k
theorem sm_congr {f g:Nat->Int}:∀n,(∀k,k<n->f k=g k)->sm f n=sm g n
 |0,_=>rfl
 |n+1,h=>by rw[sm,sm,sm_congr n λ k hk=>h k (by omega),h n (by omega)]
theorem Zme (f g:Nat->Int):∀n,sm (λ k=>f k+g k) n=sm f n+sm g n
 |0=>rfl
 |n+1=>by rw[sm,sm,sm,Zme f g n];omega
theorem ZuL {f g:Nat->Int}:∀n,(∀k,k<n->f k<=g k)->sm f n<=sm g n
 |0,_=>qX _
 |n+1,h=>by
  have:=ZuL n λ k hk=>h k (by omega)
  have:=h n (by omega);rw[sm,sm];omega
theorem ZuM :∀n,sm (λ _=>0) n=0
 |0=>rfl
 |n+1=>by rw[sm,ZuM n];rfl
theorem Zjl {f:Nat->Int}(n:Nat)(h:∀k,k<n->f k=0):sm f n=0:=by rw[sm_congr n h,ZuM]
theorem Zo2 (v:Nat)(x:Int):∀n,sm (λ k=>if k=v then x else 0) n=if v<n then x else 0
 |0=>rfl
 |n+1=>by
  rw[sm,Zo2 v x n];by_cases c:n=v
  ·subst c;rw[if_neg (by omega),if_pos rfl,if_pos (by omega)];omega
  ·by_cases c2:v<n
   ·rw[if_pos c2,if_neg c,if_pos (by omega)];omega
   ·rw[if_neg c2,if_neg c,if_neg (by omega)];rfl
def Zbl {α:Type}:Option (α×Int)->Option (α×Int)->Option (α×Int)
 |none,y=>y
 |some x,none=>some x
 |some x,some y=>if y.2<x.2 then some y else some x
theorem ZjF {α:Type}(x:Option (α×Int)):Zbl x none=x:=by cases x<;>rfl
theorem ZwT {α:Type}(x y z:Option (α×Int)):Zbl (Zbl x y) z=Zbl x (Zbl y z):=by
 rcases x with _|x<;>rcases y with _|y<;>rcases z with _|z<;>try rfl
 ·rw[ZjF,ZjF]
 ·by_cases h1:y.2<x.2<;>by_cases h2:z.2<y.2<;>by_cases h3:z.2<x.2<;>first|(exfalso;omega)|simp[Zbl,h1,h2,h3]
theorem ZnF {α β:Type}(B:β->Option (α×Int)):∀(L:List β) (st:Option (α×Int)),L.foldl (λ st v=>Zbl st (B v)) st=Zbl st (L.foldl (λ st v=>Zbl st (B v)) none)
 |[],st=>(ZjF st).symm
 |v::L,st=>by
  rw[jF,jF,ZnF B L,ZnF B L (Zbl none (B v)),ZwT];rfl
section bound
variable (c:Nat->Nat->Int)(n:Nat)
def Zaq :List Nat->Int
 |[]=>0
 |u::l=>(l.map (c u)).sum+Zaq l
def fr (l:List Nat)(w:Nat):Int:=if w∈l then 0 else 1
def ZcP (l:List Nat)(v:Nat):Int:=sm (λ w=>if w≠v/\w∉l then c v w else 0) n
def Zdi (l:List Nat)(v:Nat):Int:=sm (λ w=>if w≠v/\w∉l then min (c v w) (c w v)else 0) n
def low (l:List Nat):Int:=sm (λ b=>sm (λ a=>if a∉l/\b∉l then min (c a b) (c b a)else 0) b) n
def Zbw :Nat->List Nat->Option (List Nat×Int)
 |0,l=>some (l,Zaq c l)
 |f+1,l=>(List.range n).foldl (λ st v=>Zbl st (if v∈l then none else Zbw f (l++[v]))) none
def Zdp (st:Option (List Nat×Int))(x:Int):Bool:=match st with
 |none=>false
 |some s=>decide (s.2<=x)
def Zb7 :Nat->List Nat->Int->Int->Option (List Nat×Int)->Option (List Nat×Int)
 |0,l,cost,rest,st=>if Zdp st (cost+rest)then st else some (l,cost)
 |f+1,l,cost,rest,st=>if Zdp st (cost+rest)then st else(List.range n).foldl (λ st v=>if v∈l then st else Zb7 f (l++[v]) (cost+ZcP c n l v) (rest-Zdi c n l v) st) st
def Zfu (l:List Nat):Int:=Zaq c l+(l.map λ u=>sm (λ w=>if w∉l then c u w else 0) n).sum
theorem Zpd (v:Nat):∀l:List Nat,Zaq c (l++[v])=Zaq c l+(l.map λ u=>c u v).sum
 |[]=>by simp[Zaq]
 |u::l=>by
  simp only[jH,Zaq,uQ,Ck,uT,yH,jI,List.sum_nil,Zpd v l];omega
theorem ZBm {l:List Nat}{v:Nat}(hv:v<n)(hl:v∉l)(f:Nat->Int):sm (λ w=>if w∉l then f w else 0) n=f v+sm (λ w=>if w∉l++[v]then f w else 0) n:=by
 have h:∀w,w<n->(if w∉l then f w else 0)=(if w=v then f v else 0)+(if w∉l++[v]then f w else 0):=λ w _=>by
  by_cases c1:w=v
  ·subst c1;rw[if_pos hl,if_pos rfl,if_neg (by simp)];omega
  ·rw[if_neg c1];by_cases c2:w∈l
   ·rw[if_neg (by simpa using c2),if_neg (by simp[c2])];omega
   ·rw[if_pos c2,if_pos (by simp[c1,c2])];omega
 rw[sm_congr n h,Zme,Zo2,if_pos hv]
theorem Zpg {f g:Nat->Int}:∀l:List Nat,(l.map λ u=>f u+g u).sum=(l.map f).sum+(l.map g).sum
 |[]=>rfl
 |u::l=>by simp only[uT,jI,Zpg l];omega
theorem Zru {l:List Nat}{v:Nat}(hv:v<n)(hl:v∉l):Zfu c n (l++[v])=Zfu c n l+ZcP c n l v:=by
 have h1:(l.map λ u=>sm (λ w=>if w∉l then c u w else 0) n)=l.map λ u=>c u v+sm (λ w=>if w∉l++[v]then c u w else 0) n:=
  yM λ u _=>ZBm n hv hl (c u)
 have h2:ZcP c n l v=sm (λ w=>if w∉l++[v]then c v w else 0) n:=sm_congr n λ w _=>by
  by_cases c1:w=v
  ·rw[if_neg (λ h=>h.1 c1),if_neg (by simp[c1])]
  ·by_cases c2:w∈l
   ·rw[if_neg (λ h=>h.2 c2),if_neg (by simp[c2])]
   ·rw[if_pos ⟨c1,c2⟩,if_pos (by simp[c1,c2])]
 rw[Zfu,Zfu,Zpd,h1,Zpg,h2,uQ,Ck];simp only[uT,yH,jI,List.sum_nil];omega
theorem ZsB {l:List Nat}{v:Nat}(hv:v<n)(hl:v∉l):low c n l=Zdi c n l v+low c n (l++[v]):=by
 have key:∀k,sm (λ b=>sm (λ a=>if a∉l/\b∉l then min (c a b) (c b a)else 0) b) k=
   sm (λ w=>if w≠v/\w∉l/\v<k then min (c v w) (c w v)else 0) k+sm (λ b=>sm (λ a=>if a∉l++[v]/\b∉l++[v]then min (c a b) (c b a)else 0) b) k:=by
  intro k
  induction k with
  |zero=>rfl
  |succ k ih=>
   rw[sm,ih,sm,sm];have e0:∀a,(a∉l++[v])↔a∉l/\a≠v:=λ a=>by simp
   by_cases ck:k=v
   ·subst ck;have f1:sm (λ w=>if w≠k/\w∉l/\k<k then min (c k w) (c w k)else 0) k=0:=Zjl k λ w _=>if_neg λ h=>by omega
    have f2:sm (λ a=>if a∉l/\k∉l then min (c a k) (c k a)else 0) k=sm (λ w=>if w≠k/\w∉l/\k<k+1 then min (c k w) (c w k)else 0) k:=sm_congr k λ w hw=>by
     by_cases c2:w∈l
     ·rw[if_neg (λ h=>h.1 c2),if_neg (λ h=>h.2.1 c2)]
     ·rw[if_pos ⟨c2,hl⟩,if_pos ⟨by omega,c2,by omega⟩,Int.min_comm]
    have f3:sm (λ a=>if a∉l++[k]/\k∉l++[k]then min (c a k) (c k a)else 0) k=0:=Zjl k λ w _=>if_neg λ h=>h.2 (by simp)
    rw[f1,f2,f3,if_neg (λ h=>h.1 rfl)];omega
   ·have f1:sm (λ w=>if w≠v/\w∉l/\v<k+1 then min (c v w) (c w v)else 0) k=sm (λ w=>if w≠v/\w∉l/\v<k then min (c v w) (c w v)else 0) k:=sm_congr k λ w _=>by
     by_cases c3:w≠v/\w∉l
     ·by_cases c4:v<k
      ·rw[if_pos ⟨c3.1,c3.2,by omega⟩,if_pos ⟨c3.1,c3.2,c4⟩]
      ·rw[if_neg (λ h=>by omega),if_neg (λ h=>c4 h.2.2)]
     ·rw[if_neg (λ h=>c3 ⟨h.1,h.2.1⟩),if_neg (λ h=>c3 ⟨h.1,h.2.1⟩)]
    rw[f1];by_cases c2:k∈l
    ·have g1:∀m:List Nat,k∈m->sm (λ a=>if a∉m/\k∉m then min (c a k) (c k a)else 0) k=0:=λ m hm=>Zjl k λ w _=>if_neg λ h=>h.2 hm
     rw[g1 l c2,g1 (l++[v]) (by simp[c2]),if_neg (λ h=>h.2.1 c2)];omega
    ·have g2:sm (λ a=>if a∉l/\k∉l then min (c a k) (c k a)else 0) k=(if v<k then min (c v k) (c k v)else 0)+sm (λ a=>if a∉l++[v]/\k∉l++[v]then min (c a k) (c k a)else 0) k:=by
      have:∀a,a<k->(if a∉l/\k∉l then min (c a k) (c k a)else 0)=(if a=v then min (c v k) (c k v)else 0)+(if a∉l++[v]/\k∉l++[v]then min (c a k) (c k a)else 0):=λ a _=>by
       by_cases d1:a=v
       ·subst d1;rw[if_pos ⟨hl,c2⟩,if_pos rfl,if_neg (λ h=>h.1 (by simp))];omega
       ·by_cases d2:a∈l
        ·rw[if_neg (λ h=>h.1 d2),if_neg d1,if_neg (λ h=>h.1 (by simp[d2]))];rfl
        ·rw[if_pos ⟨d2,c2⟩,if_neg d1,if_pos ⟨by simp[d1,d2],by simp[ck,c2]⟩];omega
      rw[sm_congr k this,Zme,Zo2]
     rw[g2];by_cases c4:v<k
     ·rw[if_pos c4,if_pos ⟨ck,c2,by omega⟩];omega
     ·rw[if_neg c4,if_neg (λ h=>by omega)];omega
 rw[low,key n]
 congr 1
 exact sm_congr n λ w _=>by
  by_cases c3:w≠v/\w∉l
  ·rw[if_pos ⟨c3.1,c3.2,hv⟩,if_pos c3]
  ·rw[if_neg (λ h=>c3 ⟨h.1,h.2.1⟩),if_neg c3]
theorem Zz1 (l:List Nat)(v:Nat):Zdi c n l v<=ZcP c n l v:=ZuL n λ w _=>by
 by_cases h:w≠v/\w∉l
 ·rw[if_pos h,if_pos h];exact Int.min_le_left _ _
 ·rw[if_neg h,if_neg h];exact qX _
theorem Zif :∀(n:Nat) (l:List Nat),l.Nodup->(∀v,v∈l->v<n)->l.length<=n
 |0,[],_,_=>uJ _
 |0,v::l,_,h=>by have:=h v (by simp);omega
 |n+1,l,hd,h=>by
  have h1:=Zif n (l.erase n) (hd.erase n) λ v hv=>by
   have h2:=h v (List.mem_of_mem_erase hv);have h3:v≠n:=(List.Nodup.mem_erase_iff hd).1 hv |>.1
   omega
  rw[List.length_erase]at h1;split at h1<;>omega
theorem Zgu {l:List Nat}(hd:l.Nodup)(hlt:∀v,v∈l->v<n)(hl:l.length=n):∀v,v<n->v∈l:=by
 intro v hv;apply gI;intro hm;have:=Zif n (v::l) (yW.2 ⟨hm,hd⟩) λ w hw=>by
  rcases yF.1 hw with rfl|hw
  ·exact hv
  ·exact hlt w hw
 simp at this;omega
theorem Zsz {l:List Nat}(h:∀v,v<n->v∈l):low c n l=0:=Zjl n λ b hb=>Zjl b λ _ _=>if_neg λ h2=>h2.2 (h b hb)
theorem ZnD {l:List Nat}(h:∀v,v<n->v∈l):Zfu c n l=Zaq c l:=by
 have:(l.map λ u=>sm (λ w=>if w∉l then c u w else 0) n).sum=0:=by
  have:(l.map λ u=>sm (λ w=>if w∉l then c u w else 0) n)=l.map λ _=>0:=yM λ u _=>Zjl n λ w hw=>if_neg λ h2=>h2 (h w hw)
  rw[this];clear this h
  induction l with
  |nil=>rfl
  |cons u l ih=>simp only[uT,jI,ih];rfl
 rw[Zfu,this];omega
theorem ZwV {α:Type}{x y:Option (α×Int)}{k:Int}(hx:∀s,x=some s->k<=s.2)(hy:∀s,y=some s->k<=s.2):∀s,Zbl x y=some s->k<=s.2:=by
 intro s h;rcases x with _|x<;>rcases y with _|y<;>simp only[Zbl]at h
 ·cases h
 ·exact hy s h
 ·exact hx s h
 ·split at h
  ·exact hy s h
  ·exact hx s h
theorem Zrw {α:Type}{B:Nat->Option (α×Int)}{k:Int}:∀(L:List Nat),(∀v,v∈L->∀s,B v=some s->k<=s.2)->∀(st:Option (α×Int)),(∀s,st=some s->k<=s.2)->∀s,L.foldl (λ st v=>Zbl st (B v)) st=some s->k<=s.2
 |[],_,_,h=>h
 |v::L,hB,st,h=>Zrw L (λ w hw=>hB w (uO _ hw)) _ (ZwV h (hB v (by simp)))
structure Part (f:Nat)(l:List Nat):Prop where
 nd:l.Nodup
 lt:∀v,v∈l->v<n
 len:l.length+f=n
variable {n}
theorem Part.snoc {f:Nat}{l:List Nat}(h:Part n (f+1) l){v:Nat}(hv:v<n)(hl:v∉l):Part n f (l++[v]):=by
 refine⟨?_,?_,by have:=h.len;simp;omega⟩
 ·rw[kL];refine⟨h.nd,by simp,?_⟩;intro a ha b hb;rw[uS]at hb;subst hb;rintro rfl;exact hl ha
 ·intro w hw;rcases yK.1 hw with hw|hw
  ·exact h.lt w hw
  ·rw[uS.1 hw];exact hv
theorem ZmY :∀(f:Nat) (l:List Nat),Part n f l->∀s,Zbw c n f l=some s->Zfu c n l+low c n l<=s.2
 |0,l,h,s,hs=>by
  have hf:=Zgu n h.nd h.lt (by have:=h.len;omega);rw[Zbw]at hs;cases hs;rw[ZnD c n hf,Zsz c n hf];dsimp only;omega
 |f+1,l,h,s,hs=>by
  rw[Zbw]at hs;refine Zrw (k:=Zfu c n l+low c n l) (B:=λ v=>if v∈l then none else Zbw c n f (l++[v])) (List.range n) (λ v hv t ht=>?_) none (λ _ h=>by cases h) s hs;by_cases hm:v∈l
  ·rw[if_pos hm]at ht;cases ht
  ·rw[if_neg hm]at ht;have hv:=uZ.1 hv;have ih:=ZmY f (l++[v]) (h.snoc hv hm) t ht;have e1:=Zru c n hv hm;have e2:=ZsB c n hv hm;have e3:=Zz1 c n l v;omega
theorem ZuD {st x:Option (List Nat×Int)}{k:Int}(h:Zdp st k=true)(hx:∀s,x=some s->k<=s.2):Zbl st x=st:=by
 rcases st with _|s
 ·cases h
 ·rcases x with _|y
  ·rfl
  ·have h1:=hx y rfl;simp only[Zdp,uF]at h;simp only[Zbl];rw[if_neg (by omega)]
theorem ext_best :∀(f:Nat) (l:List Nat),Part n f l->∀st,Zb7 c n f l (Zfu c n l) (low c n l) st=Zbl st (Zbw c n f l)
 |0,l,h,st=>by
  have hf:=Zgu n h.nd h.lt (by have:=h.len;omega);have hb:=ZmY c 0 l h;rw[Zb7];split
  ·rename_i hs;exact(ZuD hs hb).symm
  ·rename_i hs;rw[Zbw,ZnD c n hf];rcases st with _|s
   ·rfl
   ·simp only[Zbl];rw[Zsz c n hf,ZnD c n hf]at hs;simp only[Zdp,uF,jW]at hs;rw[if_pos (by omega)]
 |f+1,l,h,st=>by
  have hb:=ZmY c (f+1) l h;rw[Zb7];split
  ·rename_i hs;exact(ZuD hs hb).symm
  ·rw[Zbw,<-ZnF (λ v=>if v∈l then none else Zbw c n f (l++[v])) (List.range n) st];have:∀(L:List Nat),(∀v,v∈L->v<n)->∀st,L.foldl (λ st v=>if v∈l then st else Zb7 c n f (l++[v]) (Zfu c n l+ZcP c n l v) (low c n l-Zdi c n l v) st) st=L.foldl (λ st v=>Zbl st (if v∈l then none else Zbw c n f (l++[v]))) st:=by
    intro L
    induction L with
    |nil=>intro _ _;rfl
    |cons v L ih=>
     intro hL st;rw[jF,jF,ih λ w hw=>hL w (uO _ hw)]
     congr 1
     by_cases hm:v∈l
     ·rw[if_pos hm,if_pos hm,ZjF]
     ·rw[if_neg hm,if_neg hm];have hv:=hL v (by simp);have e1:=Zru c n hv hm;have e2:=ZsB c n hv hm;rw[<-e1,show low c n l-Zdi c n l v=low c n (l++[v]) by omega];exact ext_best f (l++[v]) (h.snoc hv hm) st
   exact this (List.range n) (λ v hv=>uZ.1 hv) st
theorem Zrx {α:Type}{B:Nat->Option (α×Int)}:∀(L:List Nat) (st:Option (α×Int)) (s:α×Int),L.foldl (λ st v=>Zbl st (B v)) st=some s->st=some s\/∃v,v∈L/\B v=some s
 |[],_,_,h=> .inl h
 |v::L,st,s,h=>by
  rcases Zrx L _ s h with h1|⟨w,h1,h2⟩
  ·dsimp only at h1;rcases st with _|x
   ·exact .inr ⟨v,by simp,h1⟩
   ·cases hB:B v with
    |none=>rw[hB,ZjF]at h1;exact .inl h1
    |some y=>
     rw[hB]at h1;simp only[Zbl]at h1;split at h1
     ·exact .inr ⟨v,by simp,by rw[hB];exact h1⟩
     ·exact .inl h1
  ·exact .inr ⟨w,uO _ h1,h2⟩
theorem ZwU {α:Type}(x y:Option (α×Int)){s:α×Int}(h:x=some s\/y=some s):∃t,Zbl x y=some t/\t.2<=s.2:=by
 rcases x with _|x<;>rcases y with _|y
 ·rcases h with h|h<;>cases h
 ·rcases h with h|h<;>cases h
  exact⟨_,rfl,qX _⟩
 ·rcases h with h|h<;>cases h
  exact⟨_,rfl,qX _⟩
 ·simp only[Zbl];by_cases c:y.2<x.2
  ·rw[if_pos c];refine⟨_,rfl,?_⟩;rcases h with h|h<;>cases h<;>omega
  ·rw[if_neg c];refine⟨_,rfl,?_⟩;rcases h with h|h<;>cases h<;>omega
theorem ZnE {α:Type}{B:Nat->Option (α×Int)}:∀(L:List Nat) (st:Option (α×Int)) (s:α×Int),(st=some s\/∃v,v∈L/\B v=some s)->∃t,L.foldl (λ st v=>Zbl st (B v)) st=some t/\t.2<=s.2
 |[],st,s,h=>by
  rcases h with h|⟨v,hv,_⟩
  ·exact⟨s,h,qX _⟩
  ·cases hv
 |v::L,st,s,h=>by
  have go:(st=some s\/B v=some s)->∃t,(v::L).foldl (λ st v=>Zbl st (B v)) st=some t/\t.2<=s.2:=λ h=>by
   obtain⟨t,h1,h2⟩:=ZwU st (B v) h;obtain⟨u,h3,h4⟩:=ZnE L (Zbl st (B v)) t (.inl h1);exact⟨u,h3,by omega⟩
  rcases h with h|⟨w,hw,hB⟩
  ·exact go (.inl h)
  ·rcases yF.1 hw with rfl|hw
   ·exact go (.inr hB)
   ·exact ZnE L _ s (.inr ⟨w,hw,hB⟩)
theorem best_of :∀(f:Nat) (l:List Nat),Part n f l->∀s,Zbw c n f l=some s->Part n 0 s.1/\l<+:s.1/\s.2=Zaq c s.1
 |0,l,h,s,hs=>by rw[Zbw]at hs;cases hs;exact⟨h,List.prefix_refl _,rfl⟩
 |f+1,l,h,s,hs=>by
  rw[Zbw]at hs;rcases Zrx (B:=λ v=>if v∈l then none else Zbw c n f (l++[v])) _ _ _ hs with h1|⟨v,hv,h1⟩
  ·cases h1
  ·by_cases hm:v∈l
   ·rw[if_pos hm]at h1;cases h1
   ·rw[if_neg hm]at h1;obtain⟨g1,g2,g3⟩:=best_of f (l++[v]) (h.snoc (uZ.1 hv) hm) s h1;exact⟨g1,(List.prefix_append l [v]).trans g2,g3⟩
end bound
section pairs
theorem ZgL (c d:Nat->Nat->Int):∀l:List Nat,Zaq (λ u v=>c u v+d u v) l=Zaq c l+Zaq d l
 |[]=>rfl
 |u::l=>by
  have:=Zpg (f:=c u) (g:=d u) l;simp only[Zaq,ZgL c d l];omega
theorem ZgM :∀l:List Nat,Zaq (λ _ _=>0) l=0
 |[]=>rfl
 |u::l=>by
  have:(l.map λ _=>(0:Int)).sum=0:=by
   clear u
   induction l with
   |nil=>rfl
   |cons _ l ih=>simp only[uT,jI,ih];rfl
  simp only[Zaq,ZgM l,this];rfl
theorem Zva (b:Nat)(x:Int):∀l:List Nat,l.Nodup->(l.map λ v=>if v=b then x else 0).sum=if b∈l then x else 0
 |[],_=>rfl
 |u::l,h=>by
  obtain⟨h1,h2⟩:=yW.1 h;have ih:=Zva b x l h2;simp only[uT,jI,ih,yF];by_cases c:u=b
  ·subst c;rw[if_pos rfl,if_neg h1,if_pos (.inl rfl)];omega
  ·rw[if_neg c];by_cases c2:b∈l
   ·rw[if_pos c2,if_pos (.inr c2)];omega
   ·rw[if_neg c2,if_neg (by rintro(h|h);exact c h.symm;exact c2 h)];rfl
theorem ZnL {u b:Nat}{l:List Nat}(h:¬u=b):(u::l).idxOf b=l.idxOf b+1:=by
 have:(u==b)=false:=by simpa using h
 rw[List.idxOf_cons,this];rfl
theorem Zpb (a b:Nat)(x:Int):∀l:List Nat,l.Nodup->a∈l->b∈l->Zaq (λ u v=>if u=a/\v=b then x else 0) l=if l.idxOf a<l.idxOf b then x else 0
 |[],_,h,_=>by cases h
 |u::l,hn,ha,hb=>by
  obtain⟨h1,h2⟩:=yW.1 hn;have none:∀(m:List Nat),(∀w,w∈m->¬w=a)->Zaq (λ u v=>if u=a/\v=b then x else 0) m=0:=by
   intro m
   induction m with
   |nil=>intro _;rfl
   |cons w m ih=>
    intro h;have e:(m.map λ v=>if w=a/\v=b then x else 0)=m.map λ _=>0:=yM λ v _=>if_neg λ h3=>h w (by simp) h3.1
    have z:(m.map λ _=>(0:Int)).sum=0:=by
     clear ih h e
     induction m with
     |nil=>rfl
     |cons _ m ih=>simp only[uT,jI,ih];rfl
    simp only[Zaq,e,z,ih λ v hv=>h v (uO _ hv)];rfl
  have none2:∀(m:List Nat),b∉m->Zaq (λ u v=>if u=a/\v=b then x else 0) m=0:=by
   intro m
   induction m with
   |nil=>intro _;rfl
   |cons w m ih=>
    intro h;have e:(m.map λ v=>if w=a/\v=b then x else 0)=m.map λ _=>0:=yM λ v hv=>if_neg λ h3=>h (by rw[<-h3.2];exact uO _ hv)
    have z:(m.map λ _=>(0:Int)).sum=0:=by
     clear ih h e
     induction m with
     |nil=>rfl
     |cons _ m ih=>simp only[uT,jI,ih];rfl
    simp only[Zaq,e,z,ih λ hv=>h (uO _ hv)];rfl
  rw[Zaq];by_cases c:u=a
  ·subst c;rw[none l λ w hw he=>h1 (he▸hw)];have e:(l.map λ v=>if u=u/\v=b then x else 0)=l.map λ v=>if v=b then x else 0:=yM λ v _=>by simp
   rw[e,Zva b x l h2,Ci];by_cases c2:b=u
   ·subst c2;rw[if_neg h1,Ci,if_neg (by omega)];rfl
   ·have hbl:b∈l:=by
     rcases yF.1 hb with h|h
     ·exact absurd h c2
     ·exact h
    have:(u::l).idxOf b=l.idxOf b+1:=ZnL (l:=l) (λ h=>c2 h.symm);rw[if_pos hbl,this,if_pos (by omega)];omega
  ·have e:(l.map λ v=>if u=a/\v=b then x else 0)=l.map λ _=>0:=yM λ v _=>if_neg λ h=>c h.1
   have z:(l.map λ _=>(0:Int)).sum=0:=by
    clear e none none2 h1 h2 hn ha hb c
    induction l with
    |nil=>rfl
    |cons _ l ih=>simp only[uT,jI,ih];rfl
   have hal:a∈l:=by
    rcases yF.1 ha with h|h
    ·exact absurd h.symm c
    ·exact h
   have ia:(u::l).idxOf a=l.idxOf a+1:=ZnL (l:=l) c;rw[e,z,ia];by_cases c2:b=u
   ·subst c2;rw[none2 l h1,Ci,if_neg (by omega)];rfl
   ·have hbl:b∈l:=by
     rcases yF.1 hb with h|h
     ·exact absurd h c2
     ·exact h
    have ib:(u::l).idxOf b=l.idxOf b+1:=ZnL (l:=l) (λ h=>c2 h.symm);rw[ib,Zpb a b x l h2 hal hbl];by_cases c3:l.idxOf a<l.idxOf b
    ·rw[if_pos c3,if_pos (by omega)];omega
    ·rw[if_neg c3,if_neg (by omega)];rfl
end pairs
section bound
variable (c:Nat->Nat->Int)(n:Nat)
theorem sm_bounds {f:Nat->Int}{K:Int}:∀n:Nat,(∀k,k<n->0<=f k/\f k<=K)->0<=sm f n/\sm f n<=K*n
 |0,_=>by simp[sm]
 |n+1,h=>by
  have ih:=sm_bounds n λ k hk=>h k (by omega)
  have:=h n (by omega);rw[sm,qQ,zW];omega
def ZbG (f:Nat)(l:List Nat)(cost rest:Int)(st:Option (List Nat×Int))(k:Nat):Option (List Nat×Int):=
 (List.range k).foldl (λ st v=>if v∈l then st else Zb7 c n f (l++[v]) (cost+ZcP c n l v) (rest-Zdi c n l v) st) st
theorem foldE_zero (f:Nat)(l:List Nat)(cost rest:Int)(st:Option (List Nat×Int)):ZbG c n f l cost rest st 0=st:=rfl
theorem foldE_in {f:Nat}{l:List Nat}{cost rest:Int}{st:Option (List Nat×Int)}{k:Nat}(h:k∈l):ZbG c n f l cost rest st (k+1)=ZbG c n f l cost rest st k:=by
 rw[ZbG,qN,Bw,jF,Cw,if_pos h];rfl
theorem foldE_out {f:Nat}{l:List Nat}{cost rest:Int}{st:Option (List Nat×Int)}{k:Nat}(h:k∉l):
  ZbG c n f l cost rest st (k+1)=Zb7 c n f (l++[k]) (cost+ZcP c n l k) (rest-Zdi c n l k) (ZbG c n f l cost rest st k):=by
 rw[ZbG,qN,Bw,jF,Cw,if_neg h];rfl
theorem ext_foldE (f:Nat)(l:List Nat)(cost rest:Int)(st:Option (List Nat×Int)):Zb7 c n (f+1) l cost rest st=if Zdp st (cost+rest)then st else ZbG c n f l cost rest st n:=rfl
variable {c n}
def Zbs (c:Nat->Nat->Int)(n:Nat):Prop:=∀u v,u<n->v<n->0<=c u v/\c u v<=1000000
theorem more_bounds (hc:Zbs c n)(l:List Nat){v:Nat}(hv:v<n)(k:Nat)(hk:k<=n):0<=sm (λ w=>if w≠v/\w∉l then c v w else 0) k/\sm (λ w=>if w≠v/\w∉l then c v w else 0) k<=1000000*k:=
 sm_bounds k λ w hw=>by
  have:=hc v w hv (by omega);split<;>omega
theorem less_bounds (hc:Zbs c n)(l:List Nat){v:Nat}(hv:v<n)(k:Nat)(hk:k<=n):0<=sm (λ w=>if w≠v/\w∉l then min (c v w) (c w v)else 0) k/\sm (λ w=>if w≠v/\w∉l then min (c v w) (c w v)else 0) k<=1000000*k:=
 sm_bounds k λ w hw=>by
  have:=hc v w hv (by omega);have:=hc w v (by omega) hv;split<;>omega
theorem Zu9 {f:Nat->Int}{K:Int}:∀l:List Nat,(∀k,k∈l->0<=f k/\f k<=K)->0<=(l.map f).sum/\(l.map f).sum<=K*l.length
 |[],_=>by simp
 |u::l,h=>by
  have ih:=Zu9 l λ k hk=>h k (by simp[hk])
  have:=h u (by simp);rw[uT,jI,yB,qQ,zW];omega
theorem Zu1 (hc:Zbs c n):∀l:List Nat,(∀v,v∈l->v<n)->l.length<=8->0<=Zaq c l/\Zaq c l<=8000000*l.length
 |[],_,_=>by simp[Zaq]
 |u::l,h,hl=>by
  rw[yB]at hl;have ih:=Zu1 hc l (λ v hv=>h v (by simp[hv])) (by omega);have:=Zu9 (f:=c u) (K:=1000000) l λ k hk=>hc u k (h u (by simp)) (h k (by simp[hk]))
  rw[Zaq,yB,qQ,zW];omega
theorem all_len :∀(n:Nat) (l:List Nat),(∀v,v<n->v∈l)->n<=l.length
 |0,_,_=>uH _
 |n+1,l,h=>by
  have hn:=h n (by omega);have ih:=all_len n (l.erase n) λ v hv=>(zX (by omega)).2 (h v (by omega))
  rw[jV hn]at ih;have:=zH hn;omega
theorem best_some :∀(f:Nat) (l:List Nat),Part n f l->∃s,Zbw c n f l=some s
 |0,l,_=>⟨_,rfl⟩
 |f+1,l,h=>by
  have hex:∃v,v<n/\v∉l:=by
   apply gI;intro hno;have hall:∀v,v<n->v∈l:=λ v hv=>gI λ hm=>hno ⟨v,hv,hm⟩
   have h3:=all_len n l hall;have:=h.len;omega
  obtain⟨v,hv,hm⟩:=hex;obtain⟨s,hs⟩:=best_some f (l++[v]) (h.snoc hv hm);obtain⟨t,ht,_⟩:=ZnE (B:=λ v=>if v∈l then none else Zbw c n f (l++[v])) (List.range n) none s (.inr ⟨v,uZ.2 hv,by rw[if_neg hm];exact hs⟩);exact⟨t,ht⟩
theorem ZuE {st:Option (List Nat×Int)}{x:Int}(h:Zdp st x=true):∃s,st=some s:=by
 rcases st with _|s
 ·cases h
 ·exact⟨s,rfl⟩
theorem ZyS {f:Nat}{l:List Nat}(h:Part n (f+1) l):∃v,v<n/\v∉l:=by
 apply gI;intro hno;have hall:∀v,v<n->v∈l:=λ v hv=>gI λ hm=>hno ⟨v,hv,hm⟩
 have h3:=all_len n l hall;have:=h.len;omega
theorem ext_some :∀(f:Nat) (l:List Nat),Part n f l->∀(cost rest:Int) (st:Option (List Nat×Int)),∃s,Zb7 c n f l cost rest st=some s
 |0,l,h,cost,rest,st=>by
  rw[Zb7];split
  ·rename_i hs;exact ZuE hs
  ·exact⟨_,rfl⟩
 |f+1,l,h,cost,rest,st=>by
  rw[ext_foldE];split
  ·rename_i hs;exact ZuE hs
  ·obtain⟨v,hv,hm⟩:=ZyS h;have key:∀k,v<k->k<=n->∃s,ZbG c n f l cost rest st k=some s:=by
    intro k
    induction k with
    |zero=>intro h;omega
    |succ k ih=>
     intro h1 h2;by_cases hk:k∈l
     ·rw[foldE_in c n hk];have:v≠k:=λ e=>hm (e▸hk)
      exact ih (by omega) (by omega)
     ·rw[foldE_out c n hk];exact ext_some f (l++[k]) (h.snoc (by omega) hk) _ _ _
   exact key n hv (uJ _)
theorem best_bounds (hc:Zbs c n)(h8:n<=8){f:Nat}{l:List Nat}(h:Part n f l){s:List Nat×Int}(hs:Zbw c n f l=some s):0<=s.2/\s.2<=64000000/\s.1.length=n/\∀v,v∈s.1->v<n:=by
 obtain⟨g1,g2,g3⟩:=best_of c f l h s hs;have hl:=g1.len;have:=Zu1 hc s.1 g1.lt (by omega);refine⟨by omega,by omega,by omega,g1.lt⟩
end bound
def ZcQ (old order:List Int):Nat->List Int
 |0=>[]
 |i+1=>match order[i]? with
  |some v=>if v∈old/\v∉order.take i then ZcQ old order i++[v]else ZcQ old order i
  |none=>ZcQ old order i
def ZeA (f:Int->Nat):List Int->Nat
 |[]=>0
 |u::l=>l.countP (λ v=>decide (f v<f u))+ZeA f l
def ZdS (old order:List Int):Nat:=ZeA (λ v=>old.idxOf v) (ZcQ old order order.length)
def ix (l:List Int)(v:Int):Int:=if v∈l then(l.idxOf v:Int)else -1
def Zji (old order:List Int)(v:Int)(k:Nat):Bool:=match order[k]? with
 |some u=>decide (ix order u=(k:Int))&&decide (ix old v<ix old u)
 |none=>false
def ZbL (old order:List Int):Nat->Nat
 |0=>0
 |i+1=>match order[i]? with
  |some v=>if ix order v=(i:Int)/\0<=ix old v then ZbL old order i+(List.range i).countP (Zji old order v)else ZbL old order i
  |none=>ZbL old order i
def Zi0 (old:List Int)(g:Nat->Int)(u v:Nat):Int:=if g u∈old/\g v∈old/\old.idxOf (g v)<old.idxOf (g u)then 1 else 0
theorem Zpc (w:Int)(c:Nat->Nat->Int):∀l:List Nat,Zaq (λ u v=>w*c u v) l=w*Zaq c l
 |[]=>by simp[Zaq]
 |u::l=>by
  have e:∀m:List Nat,(m.map λ v=>w*c u v).sum=w*(m.map (c u)).sum:=λ m=>by
   induction m with
   |nil=>simp
   |cons v m ih=>simp only[uT,jI,ih,zW]
  simp only[Zaq];rw[Zpc w c l,e,zW]
theorem Zvc (f:Nat->Int):∀n,((List.range n).map f).sum=sm f n
 |0=>rfl
 |n+1=>by rw[qN,uQ,Ck,Zvc f n,sm];simp
theorem sumC_range (c:Nat->Nat->Int):∀n,Zaq c (List.range n)=sm (λ A=>sm (λ j=>c A (A+1+j)) (n-1-A)) n
 |0=>rfl
 |n+1=>by
  rw[qN,Zpd,sumC_range c n,Zvc,<-Zme,sm];have e:sm (λ j=>c n (n+1+j)) (n+1-1-n)=0:=by
   rw[show n+1-1-n=0 by omega];rfl
  rw[e,jW];refine sm_congr n λ A hA=>?_
  rw[show n+1-1-A=(n-1-A)+1 by omega,sm,show A+1+(n-1-A)=n by omega]
end Go.Bd
namespace Go.Stb
structure Ord {α:Type}(R:α->α->Prop):Prop where
 asymm:∀a b,R a b->¬R b a
 trans:∀a b c,R a b->R b c->R a c
 total:∀a b,a≠b->R a b\/R b a
variable {α:Type}{R:α->α->Prop}
theorem ZFi (h:Ord R){l m:List α}(hp:l.Perm m)(hl:l.Pairwise R)(hm:m.Pairwise R):l=m:=
 Bp (le:=R) (λ a b _ _ h1 h2=>absurd h2 (h.asymm a b h1)) hl hm hp
theorem Zzt {x:α}{l m:List α}(h:Ord R)(hs:(l++m).Pairwise R)(hl:∀a,a∈l->R a x)(hm:∀a,a∈m->R x a):(l++x::m).Pairwise R:=by
 rw[gE]at hs|-;refine⟨hs.1,kV.2 ⟨hm,hs.2.1⟩,λ a ha b hb=>?_⟩;rcases yF.1 hb with rfl|hb
 ·exact hl a ha
 ·exact hs.2.2 a ha b hb
end Go.Stb
