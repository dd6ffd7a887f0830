/- Solve: it finds the least optimal ranks with a certificate. -/
import Derived.Test.YtjjbhjnpeenbkaaGreatDoorSxU
import Derived.Test.YtjjbhjnpeenbkaaGreatDoorSxJ
import Derived.Test.YtjjbhjnpeenbkaaGreatDoorTypes
import Derived.Test.YtjjbhjnpeenbkaaGreatDoorPSFam
import Derived.Test.YtjjbhjnpeenbkaaGreatDoorPSMerge
import Derived.Test.YtjjbhjnpeenbkaaGreatDoorN
import Derived.Test.YtjjbhjnpeenbkaaGreatDoorBaF
set_option linter.unusedSimpArgs false
set_option linter.unusedVariables false
set_option maxHeartbeats 16000000
namespace Go.Proofs.YtjjbhjnpeenbkaaGreatDoor.Sx
open Go Go.PS Go.Proofs
theorem ZhP (l:List Bd)(k:Nat):at0 (zeros l) k=0:=by
 simp only[at0,zeros,gK];split<;>rfl
theorem ZtU {l:List Bd}(v:Int):Zar (ZdC l v) l.length=-(Zct l (zeros l) v):=by
 rw[Zct,<-ZjO];refine Zd6 λ k hk=>?_
 obtain⟨b,hb⟩:=Zad hk;have hz:(zeros l)[k]? =some 0:=by simp[zeros,hk]
 simp only[ZdC,Zbj,hb,hz];split<;>split<;>omega
theorem potB_zeros {l:List Bd}{f:List Int}{p:Nat->Int}(h:PotB l f p):PotB l (zeros l) p:=λ k b hk=>
 ⟨(h k b hk).1,λ hf=>by rw[ZhP]at hf;omega⟩
theorem potB_nil {l:List Bd}{p:Nat->Int}:PotB l [] p↔PotB l (zeros l) p:=
 ⟨potB_zeros,λ h k b hk=>⟨(h k b hk).1,λ hf=>by simp[at0]at hf⟩⟩
theorem ZCF {W:List Way}{n v:Nat}(hl:W.length=n)(hv:v<n):at0 (Ze7 W) v=lgW W v:=by
 have:=ZdS (v:=(v:Int)) hl (by omega) (by omega);rw[uL]at this;rw[at0,Ze7,uL,uJ,this];rfl
structure Best (n:Nat)(l:List Bd)(r f:List Int):Prop where
 fl:f.length=l.length
 rl:r.length=n
 pos:∀k:Nat,0<=at0 f k/\at0 f k<=1099511627776
 dv:∀v:Nat,v<n->Zct l f v=0
 opt:∀v:Nat,v<n->Opt (Zaw l f) (Zlx n) v (at0 r v)
theorem solve_best {n:Nat}{l:List Bd}(hg:nOk ((n:Int),l)=true)(hp:∃p,PotB l (zeros l) p):∃r f,SolveOk ((n:Int),l) r f/\Best n l r f:=by
 obtain⟨hb,hn,hl⟩:=ZeK hg;obtain⟨p,hp⟩:=hp;have hp0:=(Zh4 (f:=zeros l) hb).2 hp;obtain⟨W0,hW0,_,_⟩:=Zpa hb hn hp0;have hnd:∀v:Nat,v<n->at0 (ZbC l n l.length) v=Zar (ZdC l v) l.length:=λ v hv=>by
  rw[at0,uL,Zj0 hv];rfl
 have hbd:∀v:Nat,v<n->-32768000<=at0 (ZbC l n l.length) v/\at0 (ZbC l n l.length) v<=32768000:=λ v hv=>by
  have:=Zn2 (l:=l) (v:=(v:Int)) (m:=l.length) (uH _) (λ k b hk=>by have:=hb k b hk;omega);rw[hnd v hv];omega
 have hps:Zge (ZbC l n l.length) n<=32768000*(n:Int):=by
  have:=(Zld (f:=λ v:Nat=>max 0 (at0 (ZbC l n l.length) v)) (c:=32768000) (m:=n) (λ v hv=>by have:=hbd v hv;omega) n (uH _)).2;exact this
 have hcert:Cert n l 67108864000 (zeros l) (ZbC l n l.length):=
  ⟨by simp[zeros],Zig _ _ _,λ k=>by rw[ZhP];exact qZ _,⟨p,hp0⟩,λ v hv=>by rw[hnd v hv,ZtU],λ v hv=>by have:=hbd v hv;omega,λ k=>by rw[ZhP];omega⟩
 obtain⟨f,nd,hc,hC,hnn⟩:=ZxS hb hn (by decide) ((Zge (ZbC l n l.length) n).toNat+1) (zeros l) (ZbC l n l.length) hcert (by have:=ZkK (ZbC l n l.length) n;omega);obtain⟨q,hq⟩:=hC.pot;obtain⟨W,hW,hWl,hopt⟩:=Zpa hb hn hq;refine⟨Ze7 W,f,?_,hC.fl,by simp[Ze7,hWl],λ k=>?_,λ v hv=>?_,λ v hv=>by rw[ZCF hWl hv];exact hopt v hv⟩
 ·exact⟨n,rfl,by simp[Ze7,hWl],hC.fl,Zkr n l f _ W0 W hg hW0 hc hC.fl hW hWl⟩
 ·have:=hC.pos k;have:=hC.cap k;have:=ZkK nd n;omega
 ·
  have hA:=Zrd hb hC.fl (λ _=>true) l.length (uH _);have hz:Zar (Zhf l f (λ _=>true)) l.length=0:=by
   rw[Zd6 (h:=λ _=>0) λ k hk=>by
    obtain⟨b,hbk⟩:=Zad hk;simp only[Zhf,hbk,if_true];omega,ZfG]
  simp only[if_true]at hA;rw[hz]at hA;have hle:∀v:Nat,v<n->Zct l f v<=0:=λ v hv=>by have:=hC.dv v hv;have:=hnn v hv;omega
  rcases Aw (Zct l f v) 0 with h1|h1
  ·have:=ZlC (g:=λ v:Nat=>Zar (Zbj l f v) l.length) (h:=λ _=>0) (n:=n) (i:=v) hle hv h1;rw[ZfG]at this;omega
  ·have:=hle v hv;omega
theorem solve_none {n:Nat}{l:List Bd}(hg:nOk ((n:Int),l)=true)(hp:¬∃p,PotB l (zeros l) p):SolveNo ((n:Int),l) 9:=by
 obtain⟨hb,hn,hl⟩:=ZeK hg;refine ZAR n l hg ?_;cases h:Zb0 n (Zaw l (zeros l)) (ZbY n)with
 |none=>rfl
 |some W=>exact absurd ⟨_,(Zh4 hb).1 (ZtL hb h)⟩ hp
section best
variable {n:Nat}{l:List Bd}{r f:List Int}
theorem Zhk (hb:ZbS n l)(h:Best n l r f):PotB l f (λ v=>at0 r v):=by
 refine(Zh4 hb).1 λ v s hs=>?_
 have hv:=Zhg hb v s hs;obtain⟨⟨j,hw⟩,_⟩:=h.opt v hv.1;exact(h.opt s.1.toNat (by omega)).2 _ _ (.step j v _ s hw hs)
theorem Zhr (hb:ZbS n l)(h:Best n l r f)(v:Nat):0<=at0 r v/\at0 r v<=16777216*(n:Int):=by
 rcases uF v n with hv|hv
 ·exact ZvU hb (h.opt v hv)
 ·have:at0 r v=0:=by rw[at0,uL,uP (by rw[h.rl];exact hv)];rfl
  rw[this];omega
theorem Zkw (hb:ZbS n l){f:List Int}(h:PotB l f (λ v=>at0 r v)){k:Nat}{b:Bd}(hk:l[k]? =some b):b.2.2.1<=gap r b/\(0<at0 f k->gap r b<=b.2.2.1):=by
 have hbb:=hb k b hk;obtain⟨h1,h2⟩:=h k b hk;dsimp only at h1 h2;rw[show((b.1.toNat:Nat):Int)=b.1 by omega,show((b.2.1.toNat:Nat):Int)=b.2.1 by omega]at h1 h2;rw[gap];exact⟨by omega,λ hf=>by have:=h2 hf;omega⟩
theorem ZBh (hg:nOk ((n:Int),l)=true)(hl:r.length=n)(hr:∀v:Nat,v<n->-34359738368<=at0 r v/\at0 r v<=34359738368):rkOk ((n:Int),l) r=true:=by
 simp only[rkOk,uK,uE,yD,yR];refine⟨⟨hg,by omega⟩,λ x hx=>?_⟩;obtain⟨k,hk⟩:=yV hx;have hkl:=(uB.1 hk).1;have:=hr k (by omega);have e:at0 r k=x:=by rw[at0,uL,hk];rfl
 have e2:Zht x=true:=by simp only[Zht,uE];omega
 rw[e2];decide
theorem Zsa (hg:nOk ((n:Int),l)=true)(hl:r.length=n)(hr:∀v:Nat,v<n->-34359738368<=at0 r v/\at0 r v<=34359738368)(hp:PotB l (zeros l) (λ v=>at0 r v)):Zcl ((n:Int),l) r=true:=by
 obtain⟨hb,hn,hll⟩:=ZeK hg;simp only[Zcl,uK,yD,yR,uE];refine⟨ZBh hg hl hr,λ b hbm=>?_⟩;obtain⟨k,hk⟩:=yV hbm;have:=(Zkw hb hp hk).1;omega
theorem ZqV (h:Zcl ((n:Int),l) r=true):nOk ((n:Int),l)=true/\r.length=n/\PotB l (zeros l) (λ v=>at0 r v):=by
 have hr:rkOk ((n:Int),l) r=true:=by simp only[Zcl,uK]at h;exact h.1
 obtain⟨hg,hlen,_⟩:=rkOk_in hr;obtain⟨hb,hn,hll⟩:=ZeK hg;simp only[Zcl,uK,yD,yR,uE]at h;refine⟨hg,by dsimp only at hlen;omega,λ k b hk=>⟨?_,λ hf=>by rw[ZhP]at hf;omega⟩⟩;have hbb:=hb k b hk;have:=h.2 b (uA hk);rw[gap]at this;dsimp only;rw[show((b.1.toNat:Nat):Int)=b.1 by omega,show((b.2.1.toNat:Nat):Int)=b.2.1 by omega];omega
theorem best_feas (hg:nOk ((n:Int),l)=true)(h:Best n l r f):Zcl ((n:Int),l) r=true:=by
 obtain⟨hb,hn,hll⟩:=ZeK hg;exact Zsa hg h.rl (λ v hv=>by have:=Zhr hb h v;omega) (potB_zeros (Zhk hb h))
def Zb5 (l:List Bd)(r:List Int):Int:=Zar (Zb6 r l) l.length
theorem cost_is (h:rkOk ((n:Int),l) r=true):ZeV ((n:Int),l) r=Zb5 l r:=by rw[ZeV,if_pos h];rfl
theorem ZAq (hb:ZbS n l)(hfl:f.length=l.length)(hdv:∀v:Nat,v<n->Zct l f v=0)(x:Nat->Int):
  Zar (λ k=>match l[k]? with|some b=>(at0 f k-b.2.2.2)*(x b.2.1.toNat-x b.1.toNat)|none=>0) l.length=0:=by
 have key:∀m,m<=l.length->Zar (λ v=>x v*Zar (Zbj l f v) m) n=Zar (λ k=>match l[k]? with|some b=>(at0 f k-b.2.2.2)*(x b.2.1.toNat-x b.1.toNat)|none=>0) m:=by
  intro m
  induction m with
  |zero=>intro _;simp only[Zar];rw[Zd6 (h:=λ _=>0) (λ v _=>Bk _),ZfG]
  |succ m ih=>
   intro hm;obtain⟨b,hbm⟩:=Zad (show m<l.length by omega);obtain⟨y,hy⟩:=Zad (show m<f.length by omega);have hbb:=hb m b hbm;have hy0:at0 f m=y:=by rw[at0,uL,hy];rfl
   rw[sumI_succ,<-ih (by omega),hbm];dsimp only;have e:∀v,v<n->x v*Zar (Zbj l f v) (m+1)=x v*Zar (Zbj l f v) m+((if b.2.1.toNat=v then x b.2.1.toNat*(y-b.2.2.2)else 0)+-(if b.1.toNat=v then x b.1.toNat*(y-b.2.2.2)else 0)):=by
    intro v hv;have ea:Zbj l f v m=(if b.2.1=(v:Int)then y-b.2.2.2 else 0)-(if b.1=(v:Int)then y-b.2.2.2 else 0):=by simp[Zbj,hbm,hy]
    rw[sumI_succ,ea,kY]
    congr 1
    by_cases c1:b.2.1.toNat=v
    ·have c2:¬b.1.toNat=v:=by omega
     rw[if_pos c1,if_neg c2,if_pos (show b.2.1=(v:Int) by omega),if_neg (show¬b.1=(v:Int) by omega),c1];simp
    ·rw[if_neg c1,if_neg (show¬b.2.1=(v:Int) by omega)];by_cases c2:b.1.toNat=v
     ·rw[if_pos c2,if_pos (show b.1=(v:Int) by omega),c2,Int.zero_sub,Int.mul_neg];omega
     ·rw[if_neg c2,if_neg (show¬b.1=(v:Int) by omega)];simp
   rw[Zd6 e,Zhy,Zhy,ZjO,ZiE,ZiE,if_pos (show b.2.1.toNat<n by omega),if_pos (show b.1.toNat<n by omega),hy0,Cs (y-b.2.2.2),Int.sub_mul];omega
 rw[<-key l.length (uH _),Zd6 (h:=λ _=>0) (λ v hv=>by rw[show Zar (Zbj l f v) l.length=0 from hdv v hv];exact Bk _),ZfG]
def ZhN (l:List Bd)(f:List Int)(k:Nat):Int:=match l[k]? with|some b=>at0 f k*b.2.2.1|none=>0
def Zlp (l:List Bd)(f:List Int):Int:=Zar (ZhN l f) l.length
theorem Zom (hb:ZbS n l)(hfl:f.length=l.length)(hdv:∀v:Nat,v<n->Zct l f v=0)(x:List Int):
  Zb5 l x=Zar (λ k=>match l[k]? with|some b=>at0 f k*gap x b|none=>0) l.length:=by
 have h:=ZAq hb hfl hdv (λ v=>at0 x v);have e:∀k,k<l.length->(match l[k]? with|some b=>(at0 f k-b.2.2.2)*((λ v:Nat=>at0 x v) b.2.1.toNat-(λ v:Nat=>at0 x v) b.1.toNat)|none=>0)=
   (match l[k]? with|some b=>at0 f k*gap x b|none=>0)+-(Zb6 x l k):=by
  intro k hk;obtain⟨b,hbk⟩:=Zad hk;have hbb:=hb k b hbk;simp only[hbk,Zb6];rw[show((b.1.toNat:Nat):Int)=b.1 by omega,show((b.2.1.toNat:Nat):Int)=b.2.1 by omega,Int.sub_mul,gap];omega
 rw[Zd6 e,Zhy,ZjO]at h;rw[Zb5];omega
theorem Zz2 (hb:ZbS n l)(hfl:f.length=l.length)(hpos:∀k:Nat,0<=at0 f k)(hdv:∀v:Nat,v<n->Zct l f v=0){x:List Int}(hx:PotB l (zeros l) (λ v=>at0 x v)):Zlp l f<=Zb5 l x:=by
 rw[Zom hb hfl hdv];refine Zjj λ k hk=>?_
 obtain⟨b,hbk⟩:=Zad hk;simp only[ZhN,hbk];exact jX (Zkw hb hx hbk).1 (hpos k)
theorem Zmi (hb:ZbS n l)(hfl:f.length=l.length)(hpos:∀k:Nat,0<=at0 f k)(hdv:∀v:Nat,v<n->Zct l f v=0){x:List Int}(hx:PotB l f (λ v=>at0 x v)):Zb5 l x=Zlp l f:=by
 rw[Zom hb hfl hdv];refine Zd6 λ k hk=>?_
 obtain⟨b,hbk⟩:=Zad hk;simp only[ZhN,hbk];obtain⟨h1,h2⟩:=Zkw hb hx hbk;rcases Aw 0 (at0 f k)with h|h
 ·have:=h2 h;rw[show gap x b=b.2.2.1 by omega]
 ·have:=hpos k;rw[show at0 f k=0 by omega];simp
theorem ZqM (hb:ZbS n l)(hfl:f.length=l.length)(hpos:∀k:Nat,0<=at0 f k)(hdv:∀v:Nat,v<n->Zct l f v=0){x:List Int}(hx:PotB l (zeros l) (λ v=>at0 x v))(hc:Zb5 l x<=Zlp l f):PotB l f (λ v=>at0 x v):=by
 intro k b hk;refine⟨(hx k b hk).1,λ hf=>gH λ hno=>?_⟩;have hkl:=(uB.1 hk).1;have hbb:=hb k b hk;rw[Zom hb hfl hdv]at hc;have hlt:=ZlC (g:=ZhN l f) (h:=λ k=>match l[k]? with|some b=>at0 f k*gap x b|none=>0) (n:=l.length) (i:=k) (λ j hj=>by
  obtain⟨c,hcj⟩:=Zad hj;simp only[ZhN,hcj];exact jX (Zkw hb hx hcj).1 (hpos j)) hkl (by
  simp only[ZhN,hk];refine Int.mul_lt_mul_of_pos_left ?_ hf;have h1:=(hx k b hk).1;dsimp only at h1 hno;rw[show((b.1.toNat:Nat):Int)=b.1 by omega,show((b.2.1.toNat:Nat):Int)=b.2.1 by omega]at h1 hno;rw[gap];omega)
 rw[Zlp]at hc;omega
theorem Zkb (hb:ZbS n l)(h:Best n l r f){x:List Int}(hx:PotB l (zeros l) (λ v=>at0 x v)):
  Zb5 l r<=Zb5 l x/\(Zb5 l x=Zb5 l r->(∀v:Nat,v<n->0<=at0 x v)->∀v:Nat,v<n->at0 r v<=at0 x v):=by
 have e1:=Zmi hb h.fl (λ k=>(h.pos k).1) h.dv (Zhk hb h);have e2:=Zz2 hb h.fl (λ k=>(h.pos k).1) h.dv hx;refine⟨by omega,λ hc h0 v hv=>?_⟩;have hp:=(Zh4 hb).2 (ZqM hb h.fl (λ k=>(h.pos k).1) h.dv hx (by omega));obtain⟨⟨j,hw⟩,_⟩:=h.opt v hv;have:=ZpZ (lo:=0) hp (λ u hu=>h0 u (Zjs.1 hu)) hw;omega
end best
theorem Zk6 {P:Program}{B X:Nat->Prop}{w0:W0}{n:Nat}{Q:Exit->St->Prop}{S:St}{id:Nat}(k:Nat)(_hid:Nat.blt id k=true)(own:Nat->Bool)(Zcf:P.follows .mixedOrders=true){ops:Array Oper}{draw:Bool}
  (h:Zac P own ops.toList ops.toList S [] λ S' fs=>Zg7 n ops draw fs.reverse=true/\Q .normal S'):PW P B X w0 n (.region id ops draw) Q S:=ZfZ own Zcf h
section mid
variable {n:Nat}{l:List Bd}{a b f f2:List Int}
theorem Zkl {k:Nat}{c:Bd}:(l.map mirB)[k]? =some c↔∃d,l[k]? =some d/\c=mirB d:=by
 rw[uJ];cases l[k]? with
 |none=>simp
 |some d=>simp[eq_comm]
theorem ZmJ (hg:nOk ((n:Int),l)=true):nOk ((n:Int),l.map mirB)=true:=by
 simp only[nOk,uK,uE,yD,yR]at hg|-;refine⟨by simpa using hg.1,λ c hc=>?_⟩;obtain⟨d,hd,rfl⟩:=uN.1 hc;have e:bdIn (n:Int) (mirB d)=bdIn (n:Int) d:=decide_eq_decide.2
  ⟨λ⟨h1,h2,h3,h4,h5,h6⟩=>⟨h3,h4,h1,h2,λ h=>h5 h.symm,h6⟩,λ⟨h1,h2,h3,h4,h5,h6⟩=>⟨h3,h4,h1,h2,λ h=>h5 h.symm,h6⟩⟩
 rw[e];exact hg.2 d hd
def Zfj (n:Nat)(r:List Int):List Int:=(List.range n).map λ v:Nat=>-(at0 r v)
theorem Zgp {r:List Int}{v:Nat}(hv:v<n):at0 (Zfj n r) v=-(at0 r v):=by
 rw[at0,uL];simp[Zfj,hv]
theorem ZnP (hb:ZbS n l){r:List Int}(h:PotB l (zeros l) (λ v=>at0 r v)):PotB (l.map mirB) (zeros (l.map mirB)) (λ v=>at0 (Zfj n r) v):=by
 intro k c hk;obtain⟨d,hd,rfl⟩:=Zkl.1 hk;have hbb:=hb k d hd;have h1:=(h k d hd).1;refine⟨?_,λ hf=>by rw[ZhP]at hf;omega⟩;dsimp only[mirB]at h1|-;rw[Zgp (by omega),Zgp (by omega)];omega
theorem ZCo (hb:ZbS n l){r:List Int}(h:PotB (l.map mirB) (zeros (l.map mirB)) (λ v=>at0 r v)):PotB l (zeros l) (λ v=>at0 (Zfj n r) v):=by
 intro k d hd;have hbb:=hb k d hd;have h1:=(h k (mirB d) (Zkl.2 ⟨d,hd,rfl⟩)).1;refine⟨?_,λ hf=>by rw[ZhP]at hf;omega⟩;dsimp only[mirB]at h1|-;rw[Zgp (by omega),Zgp (by omega)];omega
theorem ZrR (hb:ZbS n l){r:List Int}{k:Nat}{d:Bd}(hd:l[k]? =some d):gap (Zfj n r) d=gap r (mirB d)/\gap (Zfj n r) (mirB d)=gap r d:=by
 have hbb:=hb k d hd;have e1:at0 (Zfj n r) d.1=-(at0 r d.1):=by
  have:=Zgp (n:=n) (r:=r) (v:=d.1.toNat) (by omega)
  rwa [show((d.1.toNat:Nat):Int)=d.1 by omega]at this
 have e2:at0 (Zfj n r) d.2.1=-(at0 r d.2.1):=by
  have:=Zgp (n:=n) (r:=r) (v:=d.2.1.toNat) (by omega)
  rwa [show((d.2.1.toNat:Nat):Int)=d.2.1 by omega]at this
 simp only[gap,mirB];rw[e1,e2];omega
theorem Zo8 (hb:ZbS n l)(r:List Int):Zb5 l (Zfj n r)=Zb5 (l.map mirB) r/\Zb5 (l.map mirB) (Zfj n r)=Zb5 l r:=by
 simp only[Zb5,uD];refine⟨Zd6 λ k hk=>?_,Zd6 λ k hk=>?_⟩
 ·obtain⟨d,hd⟩:=Zad hk;simp only[Zb6,hd,Zkl.2 ⟨d,hd,rfl⟩,(ZrR hb hd).1];rfl
 ·obtain⟨d,hd⟩:=Zad hk;simp only[Zb6,hd,Zkl.2 ⟨d,hd,rfl⟩,(ZrR hb hd).2];rfl
theorem lowN_le {h:Nat->Int}:∀{k v:Nat},v<k->Zbl h k<=h v:=by
 intro k
 induction k with
 |zero=>intro v hv;omega
 |succ k ih=>
  intro v hv;rw[Zbl];rcases uF v k with h1|h1
  ·have:=ih h1;split
   ·rename_i hc;rcases hc with hc|hc
    ·omega
    ·omega
   ·exact this
  ·have:v=k:=by omega
   subst this;split<;>omega
theorem Zg6 {h:Nat->Int}{m:Int}:∀{k:Nat},0<k->(∀v,v<k->m<=h v)->m<=Zbl h k:=by
 intro k
 induction k with
 |zero=>intro h0;omega
 |succ k ih=>
  intro _ hh;rw[Zbl];have h1:=hh k (by omega);split
  ·exact h1
  ·rename_i hc;exact ih (by omega) λ v hv=>hh v (by omega)
theorem Zl2 {v:Nat}(hv:v<a.length):at0 (midF a b) v=halfAt a b (topN a b a.length) v-Zbl (halfAt a b (topN a b a.length)) a.length:=by
 rw[at0,uL];simp[midF,hv]
theorem Zra (hg:nOk ((n:Int),l)=true)(ha:Best n l a f)(hb:Best n (l.map mirB) b f2):Zcl ((n:Int),l) (midF a b)=true/\ZeV ((n:Int),l) (midF a b)=ZeV ((n:Int),l) a:=by
 obtain⟨hbd,hn,hll⟩:=ZeK hg;obtain⟨hbm,_,_⟩:=ZeK (ZmJ hg);have pa:=Zhk hbd ha;have pb:=Zhk hbm hb;have px:=ZCo hbd (potB_zeros pb);have py:=ZnP hbd (potB_zeros pa);obtain⟨c1,c2⟩:=Zo8 hbd b;obtain⟨c3,c4⟩:=Zo8 hbd a;have h1:=(Zkb hbd ha px).1;have h2:=(Zkb hbm hb py).1;have hva:=Zmi hbd ha.fl (λ k=>(ha.pos k).1) ha.dv pa;have pt:=ZqM hbd ha.fl (λ k=>(ha.pos k).1) ha.dv px (by omega)
 have hfa:fromTo a 34359738368:=λ v=>by have:=Zhr hbd ha v;omega
 have hfb:fromTo b 34359738368:=λ v=>by have:=Zhr hbm hb v;omega
 have htop:=ZnD hfa hfb a.length;have hge:=λ v (hv:v<a.length)=>ZoU (a:=a) (b:=b) hv
 generalize ht:topN a b a.length=t at htop hge;have hmid:∀v:Nat,v<n->at0 (midF a b) v=(at0 a v+t-at0 b v)/2-Zbl (halfAt a b t) a.length:=λ v hv=>by
  rw[Zl2 (by rw[ha.rl];exact hv),ht];rfl
 have hlow:∀v:Nat,v<n->Zbl (halfAt a b t) a.length<=(at0 a v+t-at0 b v)/2/\0<=Zbl (halfAt a b t) a.length:=λ v hv=>by
  refine⟨lowN_le (h:=halfAt a b t) (by rw[ha.rl];exact hv),Zg6 (by rw[ha.rl];omega) λ u hu=>?_⟩;have:=hge u hu;have:=hfa u;rw[halfAt];omega
 have pm:PotB l f (λ v=>at0 (midF a b) v):=by
  intro k d hk;have hbb:=hbd k d hk;obtain⟨a1,a2⟩:=pa k d hk;obtain⟨x1,x2⟩:=pt k d hk;dsimp only at a1 a2 x1 x2|-;rw[Zgp (by omega),Zgp (by omega)]at x1 x2;rw[hmid _ (by omega),hmid _ (by omega)];exact⟨by omega,λ hf=>by have:=a2 hf;have:=x2 hf;omega⟩
 have hml:(midF a b).length=n:=by simp[midF,ha.rl]
 have hfe:Zcl ((n:Int),l) (midF a b)=true:=Zsa hg hml (λ v hv=>by
  rw[hmid v hv];have:=hlow v hv;have:=hge v (by rw[ha.rl];exact hv);have:=hfa v;have:=hfb v;omega) (potB_zeros pm)
 refine⟨hfe,?_⟩;have hr1:rkOk ((n:Int),l) (midF a b)=true:=by simp only[Zcl,uK]at hfe;exact hfe.1
 have hfa2:=best_feas hg ha;have hr2:rkOk ((n:Int),l) a=true:=by simp only[Zcl,uK]at hfa2;exact hfa2.1
 rw[cost_is hr1,cost_is hr2,Zmi hbd ha.fl (λ k=>(ha.pos k).1) ha.dv pm,hva]
end mid
end Go.Proofs.YtjjbhjnpeenbkaaGreatDoor.Sx
namespace Go.Proofs.YtjjbhjnpeenbkaaGreatDoor.Cyc
open Go Go.PS Go.Proofs
set_option maxRecDepth 100000
attribute [local irreducible] Zac wpG Zaa
def ZeE (l:List Int)(n:Int):Bool:=l.any (λ x=>decide (x=n))
def placeF (l:List Int)(n:Int):Int:=ZcT (l.findIdx? (λ x=>decide (x=n)))
theorem Zkh (l:List Int)(n:Int):Zaa Tryz.prog 170 [Zab l, .int n] (.int (placeF l n)):=by
 refine kE Tryz.func170 ?_;intro hat B X w0;have hl:=ZaU 0 hat rfl;rw[uD]at hl;refine kw1 kO kc0 kc0 ?_;refine Zaf (λ(k:Nat)=>k<=l.length/\∀(j:Nat) y,j<k->l[j]? =some y->(decide (y=n))=false) (λ k=>[(0, .d (Zab l)),(1, .int n),(7, .int l.length),(8, .int k)]) (λ k=>[]) (λ k=>l.length-k) 0 ?_ ?_ ?_
 ·exact⟨uI _,λ j y h=>by omega⟩
 ·exact kN kc0 []
 ·rintro k ⟨hk,hinv⟩;rcases uF k l.length with hlt|hge
  ·obtain⟨p,hp⟩:=Zad hlt;refine kw kO (kc1 hp) kc0 ?_
   repeat' first|exact True.intro|refine Bn.mk ?_ ?_|intro hc
   ·refine Zah ?_;rw[placeF,ZeO hp (by simpa using hc.symm) hinv];rfl
   ·refine⟨k+1,?_,eL [] _ _ (by refine⟨?_,?_⟩<;>(repeat' first|exact fmn|refine fmc ⟨(by first|rfl|(simp(disch:=omega) only[go_sem,simprocAttr,inL];first|done|omega|(congr 1;done))),?_⟩);done),?_⟩
    ·exact⟨by omega,Zbe hinv hp (by simpa using λ h=>hc h.symm)⟩
    ·omega
  ·refine kw1 kO kc0 kc0 ?_;refine Zah ?_;rw[placeF,Zfm (λ j y hy=>hinv j y (by have:=(uB.1 hy).1;omega) hy)];rfl
theorem ZAK (l:List Int)(n:Int):Zaa Tryz.prog 224 [Zab l, .int n] (.bool (ZeE l n)):=by
 refine kE Tryz.func224 ?_;intro hat B X w0;refine kw1 kO kc0 (kc1 (Zkh l n)) ?_;exact Zaj (Zhs _ l)
def Zjy (l:List Arc)(a:Arc):Option Nat:=l.findIdx? (λ x=>decide (x=a))
theorem Zxs (l:List Int)(i:Nat)(x:Int)(hx:l[i]? =some x):Zaa Tryz.prog 242 [Zab l, .int i] (.bool (ZeE (l.take i) x)):=by
 have hi:=(uB.1 hx).1;refine kE Tryz.func242 ?_;intro hat B X w0;have hl:=ZaU 0 hat rfl;rw[uD]at hl;have hr:=ZAK (l.take i) x;simp only[Zab,Ai]at hr;refine kw1 kO (kc1 hx) (kc1 hr) ?_;exact Zaj rfl
def ZgE (l:List Int)(n:Int)(k:Nat):Int:=match l[k]? with
 |some x=>if x<0\/n<=x then 3 else if ZeE (l.take k) x then 6 else 0
 |none=>0
def ZfP (l:List Int)(n:Int):Int:=ZdG (ZgE l n) l.length
theorem Zu4 (l:List Int)(n:Int):Zaa Tryz.prog 209 [Zab l, .int n] (.int (ZfP l n)):=by
 refine kE Tryz.func209 ?_;intro hat B X w0;have hl:=ZaU 0 hat rfl;rw[uD]at hl;refine kw1 kO kc0 kc0 ?_;refine Zaf (λ(k:Nat)=>k<=l.length/\ZdG (ZgE l n) k=0) (λ k=>[(0, .d (Zab l)),(1, .int n),(7, .d (Zab l)),(8, .int l.length),(9, .int k)]) (λ k=>[]) (λ k=>l.length-k) 0 ?_ ?_ ?_
 ·exact⟨uI _,rfl⟩
 ·exact kN kc0 []
 ·rintro k ⟨hk,hinv⟩;rcases uF k l.length with hlt|hge
  ·obtain⟨p,hp⟩:=Zad hlt;have hr:=Zxs l k p hp;refine kw kO (kc1 hp) (kc1 hr) ?_
   repeat' first|exact True.intro|refine Bn.mk ?_ ?_|intro hc
   all_goals try
    refine Zah ?_
    first
     |exact(Zqa hlt hinv (by simp only[ZgE,hp];rw[if_pos (by omega)]) (by decide)).symm
     |exact(Zqa hlt hinv (by simp only[ZgE,hp];rw[if_neg (by omega),if_pos (by assumption)]) (by decide)).symm
   ·refine⟨k+1,?_,eL [] _ _ (by refine⟨?_,?_⟩<;>(repeat' first|exact fmn|refine fmc ⟨(by first|rfl|(simp(disch:=omega) only[go_sem,simprocAttr,inL];first|done|omega|(congr 1;done))),?_⟩);done),?_⟩
    ·refine⟨by omega,Zs9 hinv ?_⟩;simp only[ZgE,hp];rw[if_neg (by omega),if_neg (by simp[*])]
    ·omega
  ·refine kw1 kO kc0 kc0 ?_;refine Zah ?_;have:k=l.length:=by omega
   rw[ZfP,<-this,hinv]
end Go.Proofs.YtjjbhjnpeenbkaaGreatDoor.Cyc
namespace Go.Proofs.YtjjbhjnpeenbkaaGreatDoor.Cyc
open Go Go.PS Go.Proofs
set_option maxRecDepth 100000
attribute [local irreducible] Zac wpG Zaa Zag
theorem ZtD :Zaa Tryz.prog 210 [Zak []] (Zak []):=by
 refine kE Tryz.func210 ?_;intro hat B X w0;refine kw1 kO kc0 kc0 ?_;refine Zjd 4 rfl ?_;intro b;cases b
 ·refine kw1 (kow (Nat.beq 5) (b:=true)) kc0 kc0 ?_;exact Zdd rfl
 ·refine kw1 kO kc0 kc0 ?_;exact Zdd rfl
theorem Zkg (l:List Arc)(hl:l≠[])(hn:l.length<=1000000):Zag Tryz.prog 210 [.d (Zak l)] [(2000, .dead)] (.ref 2000 2 0 l.length l.length) [(2000, .row 2 (l.map ZaZ))]:=by
 have he:(l.map ZaZ).isEmpty=false:=by simpa using hl
 have hpos:0<l.length:=zZ.2 hl;refine kM Tryz.func210 ?_;intro B X w0;refine kw1 (kow (Nat.beq 5) (b:=false)) (kc2 he @Zat) kc0 ?_;refine eR [(2000,7)] [(2, .ref 2000 2 0 _ _)] [(2000, .row 2 _)] (by refine⟨?_,?_⟩<;>(repeat' first|exact fmn|refine fmc ⟨(by first|rfl|(simp(disch:=omega) only[go_sem,simprocAttr,inL];first|done|omega|(congr 1;done))),?_⟩);done) ?_;refine ZaX ?_;exact⟨rfl,uM.2 ⟨rfl,yB _⟩⟩
def Zkz (a:Arc):Arc:=(a.2,a.1)
def ZeJ (l:List Arc)(set:List Int):List Arc:=l.mapIdx λ i a=>if ZeE set i then Zkz a else a
theorem Zhu (l:List Arc)(set:List Int):(ZeJ l set).length=l.length:=by simp[ZeJ]
theorem Zjg {l:List Arc}{set:List Int}{k:Nat}{a:Arc}(h:l[k]? =some a):(ZeJ l set)[k]? =some (if ZeE set k then Zkz a else a):=by
 simp[ZeJ,List.getElem?_mapIdx,h]
theorem ZBp (l:List Arc):ZeJ l []=l:=by
 refine qI λ u=>?_
 rcases uF u l.length with h|h
 ·obtain⟨a,ha⟩:=Zad h;rw[Zjg ha,ha];simp[ZeE]
 ·rw[uP (by rw[Zhu];exact h),uP h]
theorem ZzW {set:List Int}{j:Nat}{x:Int}(hx:set[j]? =some x)(n:Int):ZeE (set.take (j+1)) n=(ZeE (set.take j) n||decide (x=n)):=by
 simp[ZeE,ZaB hx]
theorem Zvo {l:List Arc}{set:List Int}{j i:Nat}{a:Arc}(hx:set[j]? =some (i:Int))(ha:l[i]? =some a):
  ZeJ l (set.take (j+1))=(ZeJ l (set.take j)).set i (Zkz a):=by
 refine qI λ u=>?_
 rcases uF u l.length with h|h
 ·obtain⟨b,hb⟩:=Zad h;rw[Zjg hb,ZzW hx,qD,Zjg hb,Zhu];by_cases hi:i=u
  ·subst hi;rw[ha]at hb;cases hb;simp[h]
  ·have:¬(i:Int)=u:=by omega
   simp[hi,this]
 ·rw[uP (by rw[Zhu];exact h),uP (by rw[yI,Zhu];exact h)]
theorem Zuo {e:Nat->Int}{n k:Nat}(h:ZdG e n=0)(hk:k<n):e k=0:=by
 induction n with
 |zero=>omega
 |succ n ih=>
  simp only[ZdG]at h;split at h
  ·rename_i h0;rcases qS.1 hk with h1|rfl
   ·exact ih h0 h1
   ·exact h
  ·rename_i h0;exact(h0 h).elim
theorem Zq9 {l:List Int}{n:Int}(h:ZfP l n=0){k:Nat}{x:Int}(hx:l[k]? =some x):0<=x/\x<n:=by
 have:=Zuo h (uB.1 hx).1;simp only[ZgE,hx]at this;split at this
 ·omega
 ·omega
def Zfl (g:Gr)(set:List Int):Gr×Int:=if gOk g then(if ZfP set g.2.length=0 then((g.1,ZeJ g.2 set),0)else((0,[]),ZfP set g.2.length))else((0,[]),1)
theorem ZAZ (g:Gr)(set:List Int):Zaa Tryz.prog 158 [gD g,Zab set] (.tup [gD (Zfl g set).1, .int (Zfl g set).2]):=by
 rcases h:gOk g with _|_
 ·have hv:Zaa Tryz.prog 97 [gD g] (.bool false):=h▸Zga g;have e:Zfl g set=((0,[]),1):=by simp[Zfl,h]
  rw[e];refine kE Tryz.func158 ?_;intro hat B X w0;refine kw1 kO kc0 (kc1 hv) ?_;refine⟨_,rfl,⟨_,_,_,_,rfl,?_⟩,Zah ?_,trivial⟩
  ·simp(disch:=omega) only[go_sem,simprocAttr];rfl
  ·rfl
 ·have hv:Zaa Tryz.prog 97 [gD g] (.bool true):=h▸Zga g;obtain⟨h1,h2,h3,h4⟩:=Zid h;obtain⟨n,l⟩:=g;dsimp only at h1 h2 h3 h4;have hs:=Zu4 set l.length;rcases gT (ZfP set l.length=0)with c|c
  ·have e:Zfl (n,l) set=((n,ZeJ l set),0):=by simp[Zfl,h,c]
   rw[e];rw[c]at hs;rcases gT (l=[])with hl0|hl0
   ·subst hl0;have hse:set=[]:=by
     cases set with
     |nil=>rfl
     |cons x t=>
      have:=Zq9 (x:=x) (k:=0) c rfl;simp at this;omega
    subst hse;refine kE Tryz.func158 ?_;intro hat B X w0;have hcl:=ZtD;refine kw1 kO kc0 (kc3 hv hs hcl) ?_;refine Zaf (λ(k:Nat)=>k=0) (λ k=>[(4, .ptr 4 0 0 0),(7, .ptr 7 0 0 0),(30, .int 0),(31, .int k)]) (λ k=>[(4, .cells [.int 0, .nilS]),(7, .cells [.int n, .d (.sl [])])]) (λ k=>k) 0 ?_ ?_ ?_
    ·rfl
    ·exact kN kc0 []
    ·rintro k rfl;refine kw1 kO kc0 kc0 ?_;refine⟨_,rfl,⟨_,_,_,_,rfl,?_⟩,Zah ?_,trivial⟩
     ·simp(disch:=omega) only[go_sem,simprocAttr];rfl
     ·rfl
   ·have hcl:=Zkg l hl0 (by omega);refine kE Tryz.func158 ?_;intro hat B X w0;have hsl:=ZaU 1 hat rfl;rw[uD]at hsl;refine kw1 kO kc0 (kc3 hv hs (kmc [(2000,27)] hcl)) ?_;refine Zaf (λ(k:Nat)=>k<=set.length) (λ k=>[(2, .ptr 2 0 0 0),(4, .ptr 4 0 0 0),(7, .ptr 7 0 0 0),(29, .d (Zab set)),(30, .int set.length),(31, .int k)]) (λ k=>[(2, .cells [.int n, .d (Zak l)]),(4, .cells [.int 0, .nilS]),(7, .cells [.int n, .ref 27 2 0 l.length l.length]),(27, .row 2 ((ZeJ l (set.take k)).map ZaZ))]) (λ k=>set.length-k) 0 ?_ ?_ ?_
    ·exact uI _
    ·exact kN (kc2 @qC.{0} @ZBp) []
    ·intro k hk;rcases uF k set.length with hlt|hge
     ·obtain⟨x,hx⟩:=Zad hlt;have hxi:=Zq9 c hx;obtain⟨i,rfl⟩:∃i:Nat,x=i:=⟨x.toNat,by omega⟩;obtain⟨p,hp⟩:=Zad (show i<l.length by omega);have hg:=Zjg (set:=set.take k) hp;have hstep:=Zvo hx hp;have hlen:=Zhu l (set.take k);refine kw1 kO (kc4 hx hp hg hlen) kc0 ?_;refine⟨k+1,?_,kN (kc2 @hstep @yP.{0,0}) [],?_⟩
      ·omega
      ·omega
     ·refine kw1 kO kc0 kc0 ?_;have:k=set.length:=by omega
      subst this;refine⟨_,rfl,⟨_,_,_,_,rfl,?_⟩,Zah ?_,trivial⟩
      ·simp(disch:=omega) only[go_sem,simprocAttr];simp[toD,gD,Zak,Zhu,uG]
      ·rfl
  ·have e:Zfl (n,l) set=((0,[]),ZfP set l.length):=by simp[Zfl,h,c]
   rw[e];refine kE Tryz.func158 ?_;intro hat B X w0;refine kw1 kO kc0 (kc2 hv hs) ?_;refine⟨_,rfl,⟨_,_,_,_,rfl,?_⟩,Zah ?_,trivial⟩
   ·simp(disch:=omega) only[go_sem,simprocAttr];rfl
   ·rfl
open Go.Cy (NA)
def tzF :Nat->Nat->Nat
 |0,_=>0
 |f+1,x=>if x%2=1 then 0 else tzF f (x/2)+1
def tz (x:Nat):Nat:=tzF 8 x
theorem Zw8 :tabs Tryz.prog=[(1,Zel)]:=by kernel_rfl
theorem ZyZ :(ZeZ [(1,Zel)] 1).length=64:=by decide+kernel
def tzI (x:Nat):Nat:=((IntKind.u64.wrap (IntKind.u64.wrap ((BitVec.ofInt 64 (x:Int)&&&BitVec.ofInt 64 (IntKind.u64.wrap (-(x:Int)))).toNat:Int)*285870213051353865)).fdiv (2^min 58 64)).toNat
theorem Zuj :∀x:Nat,x<256->0<x->(IntKind.u64.wrap (IntKind.u64.wrap ((BitVec.ofInt 64 (x:Int)&&&BitVec.ofInt 64 (IntKind.u64.wrap (-(x:Int)))).toNat:Int)*285870213051353865)).fdiv (2^min 58 64)=(tzI x:Int)/\tzI x<64/\Zel[tzI x]? =some (tz x:Int):=by decide+kernel
theorem ZtY {k:Nat}{v:Int}(h:Zel[k]? =some v):(ZeZ [(1,Zel)] 1).drop k=D.sc (.int .u8 v)::(ZeZ [(1,Zel)] 1).drop (k+1):=by
 have h1:(ZeZ [(1,Zel)] 1)[k]? =some (D.sc (.int .u8 v)):=by
  show(Zel.map λ v=>D.sc (.int .u8 v))[k]? =_;rw[uJ,h];rfl
 obtain⟨h2,h3⟩:=uB.1 h1;rw[gG h2,h3]
theorem ZAC (x:Nat)(h0:0<x)(h1:x<256):Zaa Tryz.prog 261 [.sc (.int .u64 x)] (.int (tz x)):=by
 obtain⟨k,e1,e2,e3⟩:∃k:Nat,(IntKind.u64.wrap (IntKind.u64.wrap ((BitVec.ofInt 64 (x:Int)&&&BitVec.ofInt 64 (IntKind.u64.wrap (-(x:Int)))).toNat:Int)*285870213051353865)).fdiv (2^min 58 64)=(k:Int)/\k<64/\Zel[k]? =some (tz x:Int):=⟨_,Zuj x h1 h0⟩;have e4:=ZtY e3;have e5:(0:Int)<=k:=Int.natCast_nonneg _;have e6:IntKind.i64.wrap (tz x:Int)=tz x:=by
  have:∀x:Nat,x<256->IntKind.i64.wrap (tz x:Int)=tz x:=by decide+kernel
  exact this x h1
 refine kE Tryz.func261 ?_;intro hat B X w0;refine kw1 kO (kc7 @Zw8 e1 e4 e6 e2 @ZyZ @uL) kc0 ?_;exact Zah rfl
theorem Zyb (x:Nat)(h0:0<x)(h1:x<256):Zaa Tryz.prog 236 [.sc (.int .u64 x)] (.int (tz x)):=by
 have h:=ZAC x h0 h1;refine kE Tryz.func236 ?_;intro hat B X w0;refine kw1 kO kc0 (kc1 h) ?_;exact Zah rfl
end Go.Proofs.YtjjbhjnpeenbkaaGreatDoor.Cyc
namespace Go.Proofs.YtjjbhjnpeenbkaaGreatDoor.Cyc
open Go Go.PS Go.Proofs
open Go.Cy (NA Zce ZcA Zb6 ZeU Zd2 ZeI atN inB Zd7 fmF Zep)
set_option maxRecDepth 100000
attribute [local irreducible] Zac wpG Zaa Zag
abbrev Zax (n:Nat):D:= .int n
abbrev Zcp (l:List Nat):D:= .sl (l.map Zax)
def Za8 (c:Nat->Nat->Nat)(f:PV):List PV:=(List.range 64).map (λ i=>PV.int (c (i/8) (i%8)))++[f]
theorem Zi1 (c:Nat->Nat->Nat)(f:PV):(Za8 c f).length=65:=by simp[Za8]
theorem Zv2 (c:Nat->Nat->Nat)(f:PV){v u:Nat}(hv:v<8)(hu:u<8):∃r,(Za8 c f).drop (v*8+u)= .int (c v u)::r:=by
 have h1:(Za8 c f)[v*8+u]? =some (.int (c v u)):=by
  rw[Za8,qG (by simp;omega),uJ,qM (by omega)];simp only[yY];rw[show(v*8+u)/8=v by omega,show(v*8+u)%8=u by omega]
 obtain⟨h2,h3⟩:=uB.1 h1;exact⟨_,by rw[gG h2,h3]⟩
theorem ZrJ (n:PV)(c:Nat->Nat->Nat)(f:PV){v u:Nat}(hv:v<8)(hu:u<8):∃r,(n::Za8 c f).drop (1+v*8+u)= .int (c v u)::r:=by
 rw[show 1+v*8+u=(v*8+u)+1 by omega,Bx];exact Zv2 c f hv hu
theorem Zow (c:Nat->Nat->Nat)(f:PV):(Za8 c f).drop 64=[f]:=by
 rw[Za8,List.drop_left' (by simp)]
theorem Zmy :∀x:Nat,x<256->0<x->tz x<8/\Go.Cy.bits 8 x=tz x::Go.Cy.bits 8 (x&&&(x-1))/\(x&&&(x-1))<x:=by decide+kernel
theorem ZsX {n s:Nat}(h:n<=8)(hs:s<2^n):Go.Cy.bits n s=Go.Cy.bits 8 s:=by
 have e:List.range 8=List.range n++(List.range (8-n)).map (n+·):=by
  rw[show 8=n+(8-n) by omega,List.range_add];simp
 rw[Go.Cy.bits,Go.Cy.bits,e,jA];have:((List.range (8-n)).map (n+·)).filter (λ u=>s.testBit u)=[]:=by
  rw[List.filter_eq_nil_iff];intro u hu;obtain⟨k,_,rfl⟩:=uN.1 hu;rw[zH (gE hs (kZ (by decide) (by omega)))]
  decide
 rw[this,yQ]
theorem ZCS {n x:Nat}(h:n<=8)(h0:0<x)(hx:x<2^n):tz x<n:=by
 have:=Go.Cy.pow_le8 h;obtain⟨_,h2,_⟩:=Zmy x (by omega) h0;have h3:tz x∈Go.Cy.bits n x:=by rw[ZsX h hx,h2];simp
 exact(Go.Cy.mem_bits.1 h3).1
def ZfU (f:Nat->Nat)(x:Nat):Nat:=((Go.Cy.bits 8 x).map f).sum
theorem Zxc {f:Nat->Nat}{x:Nat}(hx:x<256)(h0:0<x):ZfU f x=f (tz x)+ZfU f (x&&&(x-1)):=by
 obtain⟨_,h2,_⟩:=Zmy x hx h0;rw[ZfU,h2];simp[ZfU]
theorem Zxp (f:Nat->Nat):ZfU f 0=0:=by
 have:Go.Cy.bits 8 0=[]:=by decide+kernel
 rw[ZfU,this];rfl
theorem ZoH {f:Nat->Nat}{k:Nat}:∀{l:List Nat},(∀u,u∈l->f u<=k)->(l.map f).sum<=l.length*k
 |[],_=>by simp
 |x::l,h=>by
  have h1:=h x (by simp);have h2:=ZoH λ u hu=>h u (uO _ hu)
  simp only[uV,jB,uX,qJ];omega
theorem ZCL {f:Nat->Nat}{k x:Nat}(h:∀u,f u<=k):ZfU f x<=8*k:=by
 refine gW (ZoH λ u _=>h u) (yL _ ?_);exact gW (jY _ _) (by simp)
theorem Zzy (n:Nat)(c:Nat->Nat->Nat)(fm:List Nat)(s:Nat):ZcA n c fm s<=1048576:=by
 cases s with
 |zero=>rw[Go.Cy.costN_zero];omega
 |succ k=>rw[Go.Cy.costN_succ,Zb6];exact Go.Cy.foldMin_le.1
def Zc8 (n:Nat)(c:Nat->Nat->Nat)(fm:List Nat)(k v:Nat):Nat:=ZeI (Zd2 n fm (k+1)) (ZeU n c (Zce n c fm k) (k+1)) (List.range v) 1048576
theorem ZtN (n:Nat)(c:Nat->Nat->Nat)(fm:List Nat)(k:Nat):Zc8 n c fm k 0=1048576:=rfl
theorem Zvz (n:Nat)(c:Nat->Nat->Nat)(fm:List Nat)(k v:Nat):Zc8 n c fm k (v+1)=if Zd2 n fm (k+1) v=true then min (Zc8 n c fm k v) (ZeU n c (Zce n c fm k) (k+1) v)else Zc8 n c fm k v:=by
 simp[Zc8,ZeI,gB]
def Zdm (n:Nat)(c:Nat->Nat->Nat)(fm:List Nat)(L k:Nat)(x:Nat):List D:=(Zce n c fm k).map Zax++Zax x::List.replicate (L-(k+2)) (.int 0)
def ZeB (n:Nat)(c:Nat->Nat->Nat)(fm:List Nat)(L k:Nat):List D:=(Zce n c fm k).map Zax++List.replicate (L-(k+1)) (.int 0)
theorem Zvb (n:Nat)(c:Nat->Nat->Nat)(fm:List Nat)(L k x y:Nat):(Zdm n c fm L k x).set (k+1) (Zax y)=Zdm n c fm L k y:=by
 have h:=Go.Cy.costL_len n c fm k;rw[Zdm,List.set_append_right _ _ (by simp[h]),uD,h,jE];rfl
theorem ZBf (n:Nat)(c:Nat->Nat->Nat)(fm:List Nat){L k:Nat}(y:Nat)(hk:k+1<L):(ZeB n c fm L k).set (k+1) (Zax y)=Zdm n c fm L k y:=by
 have h:=Go.Cy.costL_len n c fm k;rw[ZeB,List.set_append_right _ _ (by simp[h]),uD,h,jE,show L-(k+1)=(L-(k+2))+1 by omega,zD];rfl
theorem ZAP (n:Nat)(c:Nat->Nat->Nat)(fm:List Nat){L k x:Nat}(hk:k+1<L):(Zdm n c fm L k x).length=L:=by
 simp[Zdm,Go.Cy.costL_len];omega
theorem ZwY (n:Nat)(c:Nat->Nat->Nat)(fm:List Nat){L k:Nat}(hk:k<L):(ZeB n c fm L k).length=L:=by
 simp[ZeB,Go.Cy.costL_len];omega
theorem Zpt (n:Nat)(c:Nat->Nat->Nat)(fm:List Nat){k s:Nat}(h:s<=k):(Zce n c fm k)[s]? =some (ZcA n c fm s):=by
 have h1:s<(Zce n c fm k).length:=by rw[Go.Cy.costL_len];omega
 have h2:=Go.Cy.costL_at n c fm h;rw[atN,uQ h1]at h2;rw[uQ h1];simp only[yW]at h2;rw[h2]
theorem Zyd (n:Nat)(c:Nat->Nat->Nat)(fm:List Nat){L k x s:Nat}(h:s<=k):(Zdm n c fm L k x)[s]? =some (Zax (ZcA n c fm s)):=by
 rw[Zdm,qG (by simp[Go.Cy.costL_len];omega),uJ,Zpt n c fm h];rfl
theorem Zvw (n:Nat)(c:Nat->Nat->Nat)(fm:List Nat)(L k x:Nat):(Zdm n c fm L k x)[k+1]? =some (Zax x):=by
 have h:=Go.Cy.costL_len n c fm k;rw[Zdm,yU (by simp[h])];simp[h]
theorem ZBc (n:Nat)(c:Nat->Nat->Nat)(fm:List Nat){L k s:Nat}(h:s<=k):(ZeB n c fm L k)[s]? =some (Zax (ZcA n c fm s)):=by
 rw[ZeB,qG (by simp[Go.Cy.costL_len];omega),uJ,Zpt n c fm h];rfl
theorem ZAV (n:Nat)(c:Nat->Nat->Nat)(fm:List Nat){L k:Nat}(h:k+1<L):(ZeB n c fm L k)[k+1]? =some (.int 0):=by
 have h1:=Go.Cy.costL_len n c fm k;rw[ZeB,yU (by simp[h1]),gK];simp[h1];omega
theorem Zw0 (n:Nat)(c:Nat->Nat->Nat)(fm:List Nat)(L k:Nat):Zdm n c fm L k (Zc8 n c fm k n)=ZeB n c fm L (k+1):=by
 have:Zce n c fm (k+1)=Zce n c fm k++[Zc8 n c fm k n]:=rfl;rw[Zdm,ZeB,this,uU,yO];rfl
theorem ZwN (n:Nat)(c:Nat->Nat->Nat)(fm:List Nat){L:Nat}(h:0<L):ZeB n c fm L 0=List.replicate L (.int 0):=by
 obtain⟨k,rfl⟩:∃k,L=k+1:=⟨L-1,by omega⟩;rw[zD];rfl
theorem Zsk (n:Nat)(c:Nat->Nat->Nat)(fm:List Nat)(h8:n<=8)(hcc:∀u v,c u v<=256)(hl:fm.length=n)(hf:∀v,atN fm v<2^n):
  Zag Tryz.prog 207 [.ptr 1000 0 0 0] [(1000, .cells (.int n::Za8 c (.ref 1001 1 0 n n))),(1001, .row 1 (fm.map Zax))] (.int (Zd7 n c fm)) [(1000, .cells (.int n::Za8 c (.ref 1001 1 0 n n))),(1001, .row 1 (fm.map Zax))]:=by
 have hpos:=Go.Cy.pow_pos' n;have hp8:=Go.Cy.pow_le8 h8;have hsh:=Zly n h8;obtain⟨L,hL⟩:∃L,L=2^n:=⟨_,rfl⟩;rw[<-hL]at hpos hp8 hsh;have hx1:=Zow c (.ref 1001 1 0 n n);refine kM Tryz.func207 ?_;intro B X w0;refine kw1 kO (kc1 hsh) kc0 ?_;refine Zaf (λ(k:Nat)=>k<L) (λ k=>[(0, .ptr 1000 0 0 0),(3, .ref 14 1 0 L L),(4, .int (k+1:Nat))]) (λ k=>[(14, .row 1 (ZeB n c fm L k)),(1000, .cells (.int n::Za8 c (.ref 1001 1 0 n n))),(1001, .row 1 (fm.map Zax))]) (λ k=>L-k) 0 ?_ ?_ ?_
 ·exact hpos
 ·exact kN (kc1 (ZwN n c fm hpos)) []
 ·intro k hk;have hpl:=ZwY n c fm hk;rcases uF (k+1) L with hlt|hge
  ·have hset:=ZBf n c fm 1048576 hlt;have hnx:=ZAV n c fm hlt;refine kw1 kO (kc4 hx1 hpl hset hnx) kc0 ?_;refine Zaf (λ(v:Nat)=>v<=n) (λ v=>[(0, .ptr 1000 0 0 0),(3, .ref 14 1 0 L L),(4, .int (k+1:Nat)),(27, .int n),(28, .int v)]) (λ v=>[(14, .row 1 (Zdm n c fm L k (Zc8 n c fm k v))),(1000, .cells (.int n::Za8 c (.ref 1001 1 0 n n))),(1001, .row 1 (fm.map Zax))]) (λ v=>n-v) 0 ?_ ?_ ?_
   ·exact uI _
   ·exact kN (kc1 @ZtN) []
   ·intro v hv;have hkl:(Zdm n c fm L k (Zc8 n c fm k v)).length=L:=ZAP n c fm hlt;rcases uF v n with hvl|hvg
    ·obtain⟨f,hfv⟩:=Zad (show v<fm.length by omega);have hfa:atN fm v=f:=by rw[atN,hfv];rfl
     have hf8:f<2^n:=by rw[<-hfa];exact hf v
     have hb:=ZAN (k+1) (by omega) v (by omega);have hsucc:=Zvz n c fm k v;by_cases hbit:(k+1).testBit v=true
     ·rw[if_pos hbit]at hb;obtain⟨p,hp⟩:∃p,p=2^v:=⟨_,rfl⟩;obtain⟨r,hr⟩:∃r,r=k+1-2^v:=⟨_,rfl⟩;have hrk:=(Go.Cy.clr (k+1) (by omega) v (by omega) hbit).1;rw[<-hr]at hrk;have hp8':p<256:=by rw[hp];exact Au (n:=8) (by decide) (by omega)
      have e1:=Zly v (by omega);rw[<-hp]at e1;have e2:=Ztm (a:=k+1) (b:=p) (by omega) (by omega);rw[hp,ZzH (k+1) (by omega) v (by omega) hbit,<-hr,<-hp]at e2;have e3:=Ztm (a:=f) (b:=r) (by omega) (by omega);have hz:=Zu8 (b:=r) hf8;have hok:Zd2 n fm (k+1) v=inB n f r:=by rw[Zd2,hbit,hfa,hr];rfl
      rw[hok]at hsucc;have hg:=Zyd n c fm (L:=L) (x:=Zc8 n c fm k v) (show r<=k by omega);rcases hin:inB n f r with _|_
      ·rw[hin]at hsucc hz;have hz':¬((ZeN f r:Nat):Int)=0:=λ h=>by have:=hz.1 (by omega);cases this
       refine kw1 kO (kc8 hx1 hkl hfv hb e1 e2 e3 @hz') kc0 ?_;refine⟨v+1,?_,eL [] _ _ (by refine⟨?_,?_⟩<;>(repeat' first|exact fmn|refine fmc ⟨(by first|rfl|(simp(disch:=omega) only[go_sem,simprocAttr,inL,hsucc,if_neg Ag];first|done|omega|(congr 1;done))),?_⟩);done),?_⟩
       ·omega
       ·omega
      ·rw[hin]at hsucc hz;have hz':=hz.2 rfl;have hr8:r<256:=by omega
       have hcg:ZeU n c (Zce n c fm k) (k+1) v=ZcA n c fm r+ZfU (c v) r:=by
        rw[ZeU,<-hr,Go.Cy.costL_at n c fm (by omega),ZsX h8 (by omega)];rfl
       have hcn:=Zzy n c fm r;have hsb:=ZCL (x:=r) (hcc v);refine kw1 kO (kc8 hx1 hkl hfv hb e1 e2 e3 (kc2 @hz' hg)) kc0 ?_;refine Zaf (λ(q:Nat×Nat)=>match q with|(x,y)=>x<=r/\y+ZfU (c v) x=ZeU n c (Zce n c fm k) (k+1) v) (λ(x,y)=>[(0, .ptr 1000 0 0 0),(3, .ref 14 1 0 L L),(4, .int (k+1:Nat)),(5, .int v),(7, .int y),(8, .int x),(27, .int n),(28, .int v)]) (λ(x,y)=>[(14, .row 1 (Zdm n c fm L k (Zc8 n c fm k v))),(1000, .cells (.int n::Za8 c (.ref 1001 1 0 n n))),(1001, .row 1 (fm.map Zax))]) (λ(x,y)=>x) (r,ZcA n c fm r) ?_ ?_ ?_
       ·exact⟨uH _,hcg.symm⟩
       ·exact kN kc0 []
       ·rintro⟨x,y⟩ ⟨hxr,hy⟩;dsimp only at hxr hy|-;rcases qT x with rfl|hx0
        ·rw[Zxp,gF]at hy;have hcu:=Zvw n c fm L k (Zc8 n c fm k v);have hst:=Zvb n c fm L k (Zc8 n c fm k v);have hmin:(if(y:Int)<(Zc8 n c fm k v:Nat)then(y:Int)else(Zc8 n c fm k v:Nat))=(min (Zc8 n c fm k v) y:Nat):=by omega
         refine kw1 kO (kc5 hx1 hkl hcu hst hmin) kc0 ?_;refine⟨v+1,?_,kN (kc3 @hsucc @if_pos.{0} hy) [],?_⟩
         ·omega
         ·omega
        ·have htz:=Zyb x hx0 (by omega);have htn:=ZCS h8 hx0 (by omega:x<2^n);have hstep:=Zxc (f:=c v) (show x<256 by omega) hx0;have hlt2:=(Zmy x (by omega) hx0).2.2;obtain⟨q,hq⟩:=ZrJ (.int n) c (.ref 1001 1 0 n n) (show v<8 by omega) (show tz x<8 by omega);have hcv:=hcc v (tz x);have hw:=ZmE (x:=(y:Int)+(c v (tz x):Nat)) (by omega) (by omega);have hu64:IntKind.u64.wrap (x:Int)=x:=by
          have:∀x:Nat,x<256->IntKind.u64.wrap (x:Int)=x:=by decide+kernel
          exact this x (by omega)
         have hand:=ZwJ (a:=x) (b:=x-1) (by omega) (by omega);have hx1':((x:Int)-1)=((x-1:Nat):Int):=by omega
         refine kw1 kO (kc7 hx1 hkl hu64 hq hw @hx1' hand) (kc1 htz) ?_;refine⟨(x&&&(x-1),y+c v (tz x)),?_,kN kc0 [],?_⟩
         ·dsimp only;exact⟨by omega,by omega⟩
         ·exact hlt2
     ·rw[if_neg hbit]at hb;have hok:Zd2 n fm (k+1) v=false:=by rw[Zd2];simp[hbit]
      rw[hok]at hsucc;refine kw1 kO (kc4 hx1 hkl hfv hb) kc0 ?_;refine⟨v+1,?_,eL [] _ _ (by refine⟨?_,?_⟩<;>(repeat' first|exact fmn|refine fmc ⟨(by first|rfl|(simp(disch:=omega) only[go_sem,simprocAttr,inL,hsucc,if_neg Ag];first|done|omega|(congr 1;done))),?_⟩);done),?_⟩
      ·omega
      ·omega
    ·have:v=n:=by omega
     subst this;refine kw1 kO (kc1 hx1) kc0 ?_;refine⟨k+1,?_,kN (kc1 @Zw0) [],?_⟩
     ·omega
     ·omega
  ·have:k+1=L:=by omega
   have hlg:=ZBc n c fm (L:=L) (k:=k) (uH k);have e1:(L:Int)-1=k:=by omega
   have e2:Zd7 n c fm=ZcA n c fm k:=by rw[Zd7];congr 1;omega
   rw[e2];refine kw1 kO (kc3 hpl e1 hlg) kc0 ?_;exact rfl
end Go.Proofs.YtjjbhjnpeenbkaaGreatDoor.Cyc
namespace Go.Proofs.YtjjbhjnpeenbkaaGreatDoor.Cyc
open Go Go.PS Go.Proofs
open Go.Cy (NA InN atN Zd7 cnt ZbK Ze5 Zcn Zbs ZdR)
set_option maxRecDepth 100000
attribute [local irreducible] Zac wpG Zaa Zag
def castA (l:List NA):List Arc:=l.map λ a=>((a.1:Int),(a.2:Int))
theorem castA_len (l:List NA):(castA l).length=l.length:=by simp[castA]
theorem castA_get {l:List NA}{k:Nat}{a:NA}(h:l[k]? =some a):(castA l)[k]? =some ((a.1:Int),(a.2:Int)):=by simp[castA,h]
theorem Zmj (objs:Nat->Ob)(k:Nat)(c:Nat->Nat->Nat)(f:PV):(Za8 c f).flatMap (PV.refs objs k)=PV.refs objs k f:=by
 have h:∀l:List Nat,(l.map (λ i=>PV.int (c (i/8) (i%8)))).flatMap (PV.refs objs k)=[]:=by
  intro l
  induction l with
  |nil=>rfl
  |cons a l ih=>rw[uV,gI,ih];cases k<;>rfl
 rw[Za8,List.flatMap_append,h];simp
theorem Zoo (g:Nat->Nat)(c:Nat->Nat->Nat)(f:PV):(Za8 c f).map (PV.ren g)=Za8 c (f.ren g):=by
 rw[Za8,Za8,uU,gL];rfl
theorem ZBi (n:PV)(c c':Nat->Nat->Nat)(f:PV){u v:Nat}(hu:u<8)(hv:v<8)(h:∀i j,i<8->j<8->c' i j=if i=u/\j=v then c u v+1 else c i j):
  ZbI (n::Za8 c f) (1+u*8+v) [.int ((c u v:Int)+1)]=n::Za8 c' f:=by
 have e:ZbI (n::Za8 c f) (1+u*8+v) [.int ((c u v:Int)+1)]=n::ZbI (Za8 c f) (u*8+v) [.int ((c u v:Int)+1)]:=by
  rw[ZbI,ZbI,show 1+u*8+v=(u*8+v)+1 by omega,Bw];simp only[uX,uZ,qQ,jH];rw[show u*8+v+1+1=(u*8+v+1)+1 from rfl,Bx]
 rw[e]
 congr 1
 refine qI λ k=>?_
 rw[Zi5 _ _ _ (by simp[Zi1];omega)];simp only[uX,uZ,qQ];rcases uF k 64 with hk|hk
 ·have hg:∀d:Nat->Nat->Nat,(Za8 d f)[k]? =some (.int (d (k/8) (k%8))):=λ d=>by
   rw[Za8,qG (by simp;omega),uJ,qM hk];rfl
  rw[hg,hg,h (k/8) (k%8) (by omega) (by omega)];by_cases hc:k=u*8+v
  ·subst hc;rw[if_neg (by omega),if_pos (by omega),if_pos (by omega)];simp
  ·rw[if_neg (show¬(k/8=u/\k%8=v) by omega)];split
   ·rfl
   ·rw[if_neg (by omega)]
 ·rw[if_neg (by omega),if_neg (by omega)];have hg:∀d:Nat->Nat->Nat,(Za8 d f)[k]? =[f][k-64]? :=λ d=>by
   rw[Za8,yU (by simp;omega)];simp
  rw[hg,hg]
theorem ZqO (n:PV)(c:Nat->Nat->Nat)(f f':PV):ZbI (n::Za8 c f) 65 [f']=n::Za8 c f':=by
 have h:(List.map (λ i=>PV.int (c (i/8) (i%8))) (List.range 64)).length=64:=by simp
 rw[ZbI,Za8,show 65=64+1 from rfl,Bw,List.take_left' h];simp only[uX,uZ,qQ];rw[kK (by simp)];simp[Za8]
theorem Zp5 (l:List NA)(a:NA)(u v:Nat):cnt (l++[a]) u v=cnt l u v+Go.Cy.ind a u v:=by
 have:=Go.Cy.cnt_cons a [] u v;simp only[cnt,jA,uC,zR,uZ]at this|-;omega
theorem Zth (l:List NA)(u v:Nat):cnt l u v<=l.length:=jY _ _
theorem Zpj {fm:List Nat}{v u f:Nat}(h:fm[v]? =some f):(fm.map Zax).set v (.int ((f|||2^u:Nat):Int))=(ZbK fm v u).map Zax:=by
 rw[ZbK,yP,atN,h];rfl
theorem Ztj (l:List Nat):∀d,d∈l.map Zax->d.cells.length=1:=ZkJ Zax 1 (λ _=>rfl) l
theorem Zhh (x:Int):∀d,d∈[D.int x]->d.cells.length=1:=by intro d hd;rw[uR]at hd;subst hd;rfl
def ZhI (g:Gr):List Nat×Int:=if gOk g then(if 8<g.1 then([],2)else(ZdR g.1.toNat (g.2.map λ a=>(a.1.toNat,a.2.toNat)),0))else([],1)
theorem ZCH (n:Nat)(l:List NA)(h:gOk ((n:Int),castA l)=true)(hi:InN n l)(hll:l.length<=256)(h8:n<=8):Zaa Tryz.prog 156 [gD ((n:Int),castA l)] (.tup [Zcp (ZdR n l), .int 0]):=by
 have hv:Zaa Tryz.prog 97 [gD ((n:Int),castA l)] (.bool true):=h▸Zga _;have hcl:=castA_len l;refine kE Tryz.func156 ?_;intro hat B X w0;refine kw1 kO (kc1 hcl) (kc1 hv) ?_;refine Zaf (λ(k:Nat)=>k<=l.length) (λ k=>[(1, .ptr 1 0 0 0),(4, .ptr 26 0 0 0),(28, .d (Zak (castA l))),(29, .int l.length),(30, .int k)]) (λ k=>[(1, .cells [.int n, .d (Zak (castA l))]),(26, .cells (.int n::Za8 (cnt (l.take k)) (.ref 24 1 0 n n))),(24, .row 1 ((List.replicate n 0).map Zax))]) (λ k=>l.length-k) 0 ?_ ?_ ?_
 ·exact uI _
 ·exact kN (kc1 @zP.{0,0}) []
 ·intro k hk;rcases uF k l.length with hlt|hge
  ·obtain⟨a,ha⟩:=Zad hlt;have hp:=castA_get ha;have hin:=hi a (uA ha);have htk:l.take (k+1)=l.take k++[a]:=ZaB ha;by_cases c:a.1=a.2
   ·have e:cnt (l.take (k+1))=cnt (l.take k):=by
     funext u v
     rw[htk,Zp5,Go.Cy.ind,if_neg (λ h=>h.1 c)];rfl
    have c':(a.1:Int)=a.2:=by omega
    refine kw1 kO (kc3 hp hcl @c') kc0 ?_;refine⟨k+1,?_,kN (kc1 e) [],?_⟩
    ·omega
    ·omega
   ·have c':¬(a.1:Int)=a.2:=by omega
    obtain⟨q,hq⟩:=ZrJ (.int n) (cnt (l.take k)) (.ref 24 1 0 n n) (show a.1<8 by omega) (show a.2<8 by omega);have hle:=Zth (l.take k) a.1 a.2;rw[uS]at hle;have hw:=ZmE (x:=(cnt (l.take k) a.1 a.2:Int)+1) (by omega) (by omega);have hs:=ZBi (.int n) (cnt (l.take k)) (cnt (l.take (k+1))) (.ref 24 1 0 n n) (show a.1<8 by omega) (show a.2<8 by omega) (λ i j _ _=>by
     rw[htk,Zp5,Go.Cy.ind];by_cases c2:i=a.1/\j=a.2
     ·rw[if_pos c2,if_pos ⟨c,c2.1.symm,c2.2.symm⟩,c2.1,c2.2]
     ·rw[if_neg c2,if_neg (λ h=>c2 ⟨h.2.1.symm,h.2.2.symm⟩)];rfl)
    have hxl:(PV.int n::Za8 (cnt (l.take k)) (.ref 24 1 0 n n)).length=66:=by rw[uX,Zi1]
    refine kw1 kO (kc7 hp hcl @c' hq hw hs @Zi1) kc0 ?_;refine⟨k+1,?_,kN kc0 [],?_⟩
    ·omega
    ·omega
  ·have hk:k=l.length:=by omega
   subst hk;rw[yF];have hrn:(List.replicate n 0).length=n:=qX;have hc256:∀u v,cnt l u v<=256:=λ u v=>gW (Zth l u v) hll
   have hdec:=Go.Cy.dec_all h8 hi (by omega:l.length<1048576);have hl0:=Zsk n (cnt l) (List.replicate n 0) h8 hc256 hrn (λ v=>by rw[Go.Cy.atN_rep];exact Go.Cy.pow_pos' n);refine kw1 kO (kc3 hcl @Zmj @gI.{0,0}) (kc1 (kmc [(1000,26),(1001,24)] hl0)) ?_;refine kR kc0 [(900,24)] [(1, .ptr 1 0 0 0),(4, .ptr 26 0 0 0),(7, .int (Zbs n l)),(8, .nilS),(58, .d (Zak (castA l))),(59, .int l.length),(60, .int (0:Nat))] [(1, .cells [.int n, .d (Zak (castA l))]),(26, .cells (.int n::Za8 (cnt l) (.ref 900 1 0 n n))),(900, .row 1 ((List.replicate n 0).map Zax))] ?_;refine Zas _ (ZdV 8 901 1 rfl rfl) ?_;refine Zaf (λ(k:Nat)=>k<=l.length) (λ k=>[(1, .ptr 1 0 0 0),(4, .ptr 26 0 0 0),(7, .int (Zbs n l)),(8, .ref 901 1 0 (Zcn n (cnt l) (Zbs n l) l k).2.length (Zcn n (cnt l) (Zbs n l) l k).2.length),(58, .d (Zak (castA l))),(59, .int l.length),(60, .int k)]) (λ k=>[(1, .cells [.int n, .d (Zak (castA l))]),(26, .cells (.int n::Za8 (cnt l) (.ref 900 1 0 n n))),(900, .row 1 ((Zcn n (cnt l) (Zbs n l) l k).1.map Zax)),(901, .row 1 ((Zcn n (cnt l) (Zbs n l) l k).2.map Zax))]) (λ k=>l.length-k) 0 ?_ ?_ ?_
   ·exact uI _
   ·exact kN kc0 []
   ·intro k hk;rcases uF k l.length with hlt|hge
    ·obtain⟨a,ha⟩:=Zad hlt;have hp:=castA_get ha;have hin:=hi a (uA ha);have hD:=hdec k hk;have hDs:Zcn n (cnt l) (Zbs n l) l (k+1)=Ze5 n (cnt l) (Zbs n l) k a (Zcn n (cnt l) (Zbs n l) l k):=by rw[Zcn,ha]
     revert hD hDs;generalize Zcn n (cnt l) (Zbs n l) l k=st;obtain⟨fm,Dk⟩:=st;intro hD hDs;dsimp only at hD|-;have hfl:=hD.len;have hDl:Dk.length<=k:=Go.Cy.nd_le (hD.asc.imp λ h=>Ct h) hD.below;by_cases c:a.1=a.2
     ·rw[Ze5,if_pos c]at hDs;have c':(a.1:Int)=a.2:=by omega
      refine kw1 kO (kc3 hp hcl @c') kc0 ?_;refine⟨k+1,?_,kN (kc1 hDs) [],?_⟩
      ·omega
      ·omega
     ·have c':¬(a.1:Int)=a.2:=by omega
      rw[Ze5,if_neg c]at hDs;have hv1:a.1<fm.length:=by omega
      have hv2:a.2<fm.length:=by omega
      obtain⟨f1,hf1⟩:=Zad hv1;obtain⟨f2,hf2⟩:=Zad hv2;have hx1:=Zow (cnt l) (.ref 900 1 0 n n);have hx2:=Zow (cnt l) (.ref 77 1 0 n n);have hs1:=ZqO (.int n) (cnt l) (.ref 900 1 0 n n) (.ref 77 1 0 n n);have hs2:=ZqO (.int n) (cnt l) (.ref 77 1 0 n n) (.ref 900 1 0 n n);have hmf:(fm.map Zax).length=n:=by rw[uD,hfl]
      have hmt:(fm.map Zax).take n=fm.map Zax:=uG (by omega);have hfa1:atN fm a.1=f1:=by rw[atN,hf1];rfl
      have hfa2:atN fm a.2=f2:=by rw[atN,hf2];rfl
      have hb1:=gE (hfa1▸hD.lt a.1) (Go.Cy.pow_le8 h8);have hb2:=gE (hfa2▸hD.lt a.2) (Go.Cy.pow_le8 h8);have hq1:=Zpj (u:=a.2) hf1;have hq2:=Zpj (u:=a.1) hf2;obtain⟨p1,hp1⟩:∃p,p=2^a.1:=⟨_,rfl⟩;obtain⟨p2,hp2⟩:∃p,p=2^a.2:=⟨_,rfl⟩;have hb3:p1<256:=by rw[hp1];exact Au (n:=8) (by decide) (by omega)
      have hb4:p2<256:=by rw[hp2];exact Au (n:=8) (by decide) (by omega)
      have e1:=Zly a.1 (by omega);have e2:=Zly a.2 (by omega);rw[<-hp1]at e1 hq2;rw[<-hp2]at e2 hq1;have o1:=Zo0 (a:=f1) (b:=p2) (by omega) (by omega);have o2:=Zo0 (a:=f2) (b:=p1) (by omega) (by omega);have hl1:=Zsk n (cnt l) (ZbK fm a.1 a.2) h8 hc256 (by rw[ZbK,yI,hfl]) (Go.Cy.orAt_lt hv1 hin.2 hD.lt);by_cases c2:Zd7 n (cnt l) (ZbK fm a.1 a.2)=Zbs n l
      ·rw[if_pos c2]at hDs;have c2':((Zd7 n (cnt l) (ZbK fm a.1 a.2):Nat):Int)=Zbs n l:=by rw[c2]
       refine kw1 kO (kc8 hp hcl @c' hx1 hx2 hs1 @Zi1 (kc8 hmf hmt @qX.{0} hfl hf1 e2 o1 (kc5 hq1 @Zmj @gI.{0,0} @c2' @Zat))) (kc1 (kmc [(1000,26),(1001,77)] hl1)) ?_;refine⟨k+1,?_,eL [(900,77),(901,106)] _ _ (by refine⟨?_,?_⟩<;>(repeat' first|exact fmn|refine fmc ⟨(by first|rfl|(simp(disch:=omega) only[go_sem,simprocAttr,inL,hDs,uC,yT,uU,uV,yS,Ob.ren,Zoo,uV];first|done|omega|(congr 1;done))),?_⟩);done),?_⟩
       ·omega
       ·omega
      ·rw[if_neg c2]at hDs;have c2':¬((Zd7 n (cnt l) (ZbK fm a.1 a.2):Nat):Int)=Zbs n l:=by omega
       refine kw1 kO (kc8 hp hcl @c' hx1 hx2 hs1 hs2 (kc8 @Zi1 hmf hmt @qX.{0} hfl hf1 hf2 (kc8 e1 e2 o1 o2 hq1 hq2 @Zmj (kc3 @Zoo @gI.{0,0} @c2')))) (kc1 (kmc [(1000,26),(1001,77)] hl1)) ?_;refine⟨k+1,?_,eL [] _ _ (by refine⟨?_,?_⟩<;>(repeat' first|exact fmn|refine fmc ⟨(by first|rfl|(simp(disch:=omega) only[go_sem,simprocAttr,inL,hDs,Ob.ren,Zoo,uV];first|done|omega|(congr 1;done))),?_⟩);done),?_⟩
       ·omega
       ·omega
    ·have hk:k=l.length:=by omega
     subst hk;refine kw1 kO kc0 kc0 ?_;exact⟨_,rfl,ZcK (o:=901) rfl rfl (by simp) (by rw[uG (by simp)];rfl),Zah rfl,trivial⟩
end Go.Proofs.YtjjbhjnpeenbkaaGreatDoor.Cyc
namespace Go.Proofs.YtjjbhjnpeenbkaaGreatDoor.Cyc
open Go Go.PS Go.Proofs
set_option maxRecDepth 100000
attribute [local irreducible] Zac wpG Zaa Zag
open Go.Cy (NA InN)
end Go.Proofs.YtjjbhjnpeenbkaaGreatDoor.Cyc
namespace Go.Proofs.YtjjbhjnpeenbkaaGreatDoor.Cyc
open Go Go.PS Go.Proofs
open Go.Cy (NA InN Acy inC hds Kahn KahnI)
set_option maxRecDepth 100000
attribute [local irreducible] Zac wpG Zaa Zag
def ZhC (n:Nat)(f:Nat->Nat):List D:=(List.range n).map λ w=>Zax (f w)
end Go.Proofs.YtjjbhjnpeenbkaaGreatDoor.Cyc
namespace Go.Proofs.YtjjbhjnpeenbkaaGreatDoor.Cyc
open Go Go.PS Go.Proofs
open Go.Cy (NA InN Acy ZjN ZcQ Asc)
set_option maxRecDepth 100000
attribute [local irreducible] Zac wpG Zaa Zag
abbrev ZfV (s:List Nat):List Int:=s.map λ x:Nat=>(x:Int)
theorem ZxG {s:List Nat}{i x:Nat}(h:s[i]? =some x):(ZfV s)[i]? =some (x:Int):=by simp[h]
theorem ZBJ (s:List Nat):Zab (ZfV s)=Zcp s:=by simp[Zab,Zcp,Function.comp]
def ati (s:List Int)(i:Nat):Int:=(s[i]?).getD 0
def Zgj (l:List NA)(s:List Int)(i:Nat):Bool:=match s[i]? with
 |some e=>decide (0<=e)&&(match l[e.toNat]? with|some a=> !decide (a.1=a.2)|none=>false)&&(decide (i=0)||decide (ati s (i-1)<e))
 |none=>true
theorem ZvM (l:List NA)(t:List Nat):ZeJ (castA l) (ZfV t)=castA (ZcQ l t):=by
 refine qI λ k=>?_
 rcases uF k l.length with h|h
 ·obtain⟨a,ha⟩:=Zad h;rw[Zjg (castA_get ha),castA_get (Go.Cy.flipN_get ha)];have:ZeE (ZfV t) (k:Int)=decide (k∈t):=by
   rw[gO];simp only[ZeE,gM,uE,uN];constructor
   ·rintro⟨x,⟨y,hy,rfl⟩,h2⟩;have:y=k:=by omega
    exact this▸hy
   ·intro hk;exact⟨_,⟨k,hk,rfl⟩,rfl⟩
  rw[this];by_cases c:k∈t
  ·simp[c,Zkz]
  ·simp[c]
 ·rw[uP (by rw[Zhu,castA_len];exact h),uP (by rw[castA_len,Go.Cy.flipN_len];exact h)]
theorem Zzp {l:List NA}{t:List Nat}(h:ZjN l t):ZfP (ZfV t) l.length=0:=by
 have key:∀k,k<=t.length->ZdG (ZgE (ZfV t) l.length) k=0:=by
  intro k
  induction k with
  |zero=>intro _;rfl
  |succ k ih=>
   intro hk;refine Zs9 (ih (by omega)) ?_;obtain⟨x,hx⟩:=Zad (show k<t.length by omega);obtain⟨a,ha,hn⟩:=h.2 x (uA hx);have hxl:=(uB.1 ha).1;simp only[ZgE,ZxG hx];rw[if_neg (by omega),if_neg];simp only[ZeE,gM,uE,not_exists,not_and];rintro y hy rfl;rw[ZfV,<-Ai]at hy;obtain⟨z,hz,he⟩:=uN.1 hy;obtain⟨i,hi⟩:=jC.1 hz;rw[qH]at hi;split at hi
   ·rename_i hik;have hi2:=uB.1 hi;have hx2:=uB.1 hx;have:=(gU.1 h.1) i k hi2.1 hx2.1 hik;rw[hi2.2,hx2.2]at this;omega
   ·cases hi
 have:=key t.length (uH _);rw[ZfP,uD];exact this
end Go.Proofs.YtjjbhjnpeenbkaaGreatDoor.Cyc
namespace Go.Proofs.YtjjbhjnpeenbkaaGreatDoor.Cyc
open Go Go.PS Go.Proofs
open Go.Cy (NA InN cnt Ze5 Zcn Zbs ZdR ZcQ ZjN Asc)
set_option maxRecDepth 100000
attribute [local irreducible] Zac wpG Zaa Zag
theorem ZsK (n:Nat)(c:Nat->Nat->Nat)(z:Nat)(l:List NA):∀k,k<=l.length->Asc (Zcn n c z l k).2/\∀i,i∈(Zcn n c z l k).2->i<k/\∃a,l[i]? =some a/\a.1≠a.2:=by
 intro k
 induction k with
 |zero=>intro _;exact⟨List.Pairwise.nil,λ i hi=>by cases hi⟩
 |succ k ih=>
  intro hk;obtain⟨h1,h2⟩:=ih (by omega);obtain⟨a,ha⟩:=Zad (show k<l.length by omega);rw[Zcn,ha];dsimp only;rw[Ze5];have h3:∀i,i∈(Zcn n c z l k).2->i<k+1/\∃a,l[i]? =some a/\a.1≠a.2:=λ i hi=>⟨by have:=(h2 i hi).1;omega,(h2 i hi).2⟩
  by_cases e:a.1=a.2
  ·rw[if_pos e];exact⟨h1,h3⟩
  ·rw[if_neg e];split
   ·refine⟨?_,λ i hi=>?_⟩
    ·refine qB.2 ⟨h1,kH _ _,λ x hx y hy=>?_⟩;rw[uR]at hy;have:=(h2 x hx).1;omega
    ·rcases yH.1 hi with hi|hi
     ·exact h3 i hi
     ·rw[uR]at hi;subst hi;exact⟨by omega,a,ha,e⟩
   ·exact⟨h1,h3⟩
theorem ZBo (n:Nat)(l:List NA):ZjN l (ZdR n l):=
 ⟨(ZsK n (cnt l) (Zbs n l) l l.length (uH _)).1,λ i hi=>((ZsK n (cnt l) (Zbs n l) l l.length (uH _)).2 i hi).2⟩
theorem Zx4 {n:Nat}{l:List NA}{t:List Nat}(h:gOk ((n:Int),castA l)=true)(ht:ZjN l t):Zaa Tryz.prog 158 [gD ((n:Int),castA l),Zcp t] (.tup [gD ((n:Int),castA (ZcQ l t)), .int 0]):=by
 have hF:=ZAZ ((n:Int),castA l) (ZfV t);have eF:Zfl ((n:Int),castA l) (ZfV t)=(((n:Int),castA (ZcQ l t)),0):=by
  have h2:=Zzp ht;rw[Zfl,if_pos h];simp only[castA_len,h2,if_true,ZvM]
 rw[eF,ZBJ]at hF;exact hF
theorem Break8 (n:Nat)(l:List NA)(h:gOk ((n:Int),castA l)=true)(hi:InN n l)(hll:l.length<=256)(h8:n<=8):Zaa Tryz.prog 94 [gD ((n:Int),castA l)] (.tup [Zcp (ZdR n l),gD ((n:Int),castA (ZcQ l (ZdR n l)))]):=by
 have hF:=Zx4 h (ZBo n l);have hl:=ZCH n l h hi hll h8;refine kE Tryz.func94 ?_;intro hat B X w0;refine kw1 kO kc0 (kc2 hl hF) ?_;refine⟨_,rfl,?_,⟨_,_,_,_,rfl,?_⟩,trivial⟩
 ·rfl
 ·simp(disch:=omega) only[go_sem,simprocAttr]
end Go.Proofs.YtjjbhjnpeenbkaaGreatDoor.Cyc
namespace Go.Proofs.YtjjbhjnpeenbkaaGreatDoor.Al
open Go Go.PS Go.Proofs
set_option maxRecDepth 100000
attribute [local irreducible] Zac wpG Zaa Zag
theorem ZmD (a:Lv)(h:tot a.2.1<=1000000):Zaa Tryz.prog 59 [lvD a] (.int (tot a.2.1)):=by
 obtain⟨n,ls,ar,cs⟩:=a;dsimp only at h;refine kE Tryz.func59 ?_;intro hat B X w0;have h1:=ZbZ 0 1 hat rfl rfl;rw[uD]at h1;dsimp only at h1;refine kw1 kO kc0 kc0 ?_;refine Zaf (λ(k:Nat)=>k<=ls.length) (λ k=>[(3, .int (tot (ls.take k))),(7, .d (Zae ls)),(8, .int ls.length),(9, .int k)]) (λ k=>[]) (λ k=>ls.length-k) 0 ?_ ?_ ?_
 ·exact uI _
 ·exact kN kc0 []
 ·intro k hk;rcases uF k ls.length with hlt|hge
  ·obtain⟨y,hy⟩:=Zad hlt;have e:=Zja hy;have h2:=ZjI ls (k+1);have e2:((tot (ls.take k):Nat):Int)+y.length=(tot (ls.take (k+1)):Nat):=by omega
   refine kw1 kO (kc2 hy e2) kc0 ?_;refine⟨k+1,?_,kN kc0 [],?_⟩
   ·omega
   ·omega
  ·have hk:k=ls.length:=by omega
   subst hk;rw[yF];refine kw1 kO kc0 kc0 ?_;exact rfl
theorem ZAk (a:Lv)(h:tot a.2.1<=1000000):Zaa Tryz.prog 118 [lvD a] (.int (tot a.2.1)):=by
 obtain⟨n,ls,ar,cs⟩:=a;dsimp only at h;refine kE Tryz.func118 ?_;intro hat B X w0;have h1:=ZbZ 0 1 hat rfl rfl;rw[uD]at h1;dsimp only at h1;refine kw1 kO kc0 kc0 ?_;refine Zaf (λ(k:Nat)=>k<=ls.length) (λ k=>[(1, .ptr 1 0 0 0),(3, .int (tot (ls.take k))),(4, .int k)]) (λ k=>[(1, .cells [.int n, .d (Zae ls), .d (Zak ar), .d (Zae cs)])]) (λ k=>ls.length-k) 0 ?_ ?_ ?_
 ·exact uI _
 ·exact kN kc0 []
 ·intro k hk;rcases uF k ls.length with hlt|hge
  ·obtain⟨y,hy⟩:=Zad hlt;have e:=Zja hy;have h2:=ZjI ls (k+1);have e2:((tot (ls.take k):Nat):Int)+y.length=(tot (ls.take (k+1)):Nat):=by omega
   refine kw1 kO (kc2 hy e2) kc0 ?_;refine⟨k+1,?_,kN kc0 [],?_⟩
   ·omega
   ·omega
  ·have hk:k=ls.length:=by omega
   subst hk;rw[yF];refine kw1 kO kc0 kc0 ?_;exact rfl
def Zb3 (n:Int)(x:Arc):Int:=if n<=x.1/\n<=x.2 then 8 else if n<=x.1\/n<=x.2 then 2 else 1
theorem ZuV (a:Lv)(x:Arc):Zaa Tryz.prog 115 [lvD a,ZaZ x] (.int (Zb3 a.1 x)):=by
 obtain⟨n,ls,ar,cs⟩:=a;refine kE Tryz.func115 ?_;intro hat B X w0;refine kw kO kc0 kc0 ?_
 repeat' first|exact True.intro|refine Bn.mk ?_ ?_|intro hc
 all_goals
  refine Zah ?_;rw[Zb3]
  repeat' split
  all_goals omega
theorem Zwa (a:Lv)(x:Arc):Zaa Tryz.prog 66 [lvD a,ZaZ x] (.int (Zb3 a.1 x)):=by
 obtain⟨n,ls,ar,cs⟩:=a;refine kE Tryz.func66 ?_;intro hat B X w0;refine kw kO kc0 kc0 ?_
 repeat' first|exact True.intro|refine Bn.mk ?_ ?_|intro hc
 all_goals
  refine Zah ?_;rw[Zb3]
  repeat' split
  all_goals omega
def Zdx (ws:List Int)(v:Int):Int:=if v<ws.length then at0 ws v else 0
theorem Zqj (ws:List Int)(v:Int)(h0:0<=v):Zaa Tryz.prog 117 [Zab ws, .int v] (.int (Zdx ws v)):=by
 refine kE Tryz.func117 ?_;intro hat B X w0;have h1:=ZaU 0 hat rfl;rw[uD]at h1;by_cases c:v<ws.length
 ·have hg:=Zdu h0 c;obtain⟨n,rfl⟩:∃n:Nat,v=n:=⟨v.toNat,by omega⟩;rw[uL]at hg;refine kw1 kO (kc1 hg) kc0 ?_;refine Zah ?_;rw[Zdx,if_pos c]
 ·refine kw1 kO kc0 kc0 ?_;refine Zah ?_;rw[Zdx,if_neg c]
theorem Zq1 (ws:List Int)(v:Int)(h0:0<=v):Zaa Tryz.prog 119 [Zab ws, .int v] (.int (Zdx ws v)):=by
 refine kE Tryz.func119 ?_;intro hat B X w0;have h1:=ZaU 0 hat rfl;rw[uD]at h1;by_cases c:v<ws.length
 ·have hg:=Zdu h0 c;obtain⟨n,rfl⟩:∃n:Nat,v=n:=⟨v.toNat,by omega⟩;rw[uL]at hg;refine kw1 kO (kc1 hg) kc0 ?_;refine Zah ?_;rw[Zdx,if_pos c]
 ·refine kw1 kO kc0 kc0 ?_;refine Zah ?_;rw[Zdx,if_neg c]
def szB (n:Int):Bool:=decide (0<=n/\n<=1048576)
theorem Zjv (n:Int):Zaa Tryz.prog 116 [.int n] (.bool (szB n)):=by
 refine kE Tryz.func116 ?_;intro hat B X w0;refine kw kO kc0 kc0 ?_
 repeat' first|exact True.intro|refine Bn.mk ?_ ?_|intro hc
 all_goals
  refine Zaj ?_;simp[szB];omega
def Zb7 (a:Lv)(ws:List Int)(sep:Int):Bool:=Zaq a&&decide ((ws.length:Int)=a.1)&&szB sep&& !ws.any λ w=> !szB w
theorem Zkt (a:Lv)(ws:List Int)(sep:Int)(hw:wide a):Zaa Tryz.prog 60 [lvD a,Zab ws, .int sep] (.bool (Zb7 a ws sep)):=by
 have hv:=Zhd a hw;have hs:=Zjv sep;rcases hva:Zaq a with _|_
 ·rw[hva]at hv;refine kE Tryz.func60 ?_;intro hat B X w0;have h1:=ZaU 1 hat rfl;rw[uD]at h1;refine kw1 kO kc0 (kc1 hv) ?_;refine Zaj ?_;rw[Zb7,hva];rfl
 rw[hva]at hv;rcases hsa:szB sep with _|_
 ·rw[hsa]at hs;refine kE Tryz.func60 ?_;intro hat B X w0;have h1:=ZaU 1 hat rfl;rw[uD]at h1;refine kw kO kc0 (kc2 hv hs) ?_
  repeat' first|exact True.intro|refine Bn.mk ?_ ?_|intro hc
  all_goals
   refine Zaj ?_;rw[Zb7,hsa];simp
 rw[hsa]at hs;by_cases hl:(ws.length:Int)=a.1
 ·have hh:=(ZiO hva).1;simp only[ZeR,uE]at hh;have e:Zb7 a ws sep= !ws.any λ w=> !szB w:=by simp[Zb7,hva,hsa,hl]
  rw[e];refine kE Tryz.func60 ?_;intro hat B X w0;refine kw1 kO (kc1 hl) (kc2 hv hs) ?_;refine Zaf (λ(k:Nat)=>k<=ws.length/\∀(j:Nat) y,j<k->ws[j]? =some y->(!szB y)=false) (λ k=>[(24, .d (Zab ws)),(25, .int ws.length),(26, .int k)]) (λ k=>[]) (λ k=>ws.length-k) 0 ?_ ?_ ?_
  ·exact⟨uI _,λ j y h=>by omega⟩
  ·exact kN kc0 []
  ·rintro k ⟨hk,hinv⟩;rcases uF k ws.length with hlt|hge
   ·obtain⟨y,hy⟩:=Zad hlt;have hz:=Zjv y;rcases hzy:szB y with _|_
    ·rw[hzy]at hz;refine kw1 kO (kc1 hy) (kc1 hz) ?_;refine Zaj ?_;rw[Zb8 hy (by simp[hzy])];rfl
    ·rw[hzy]at hz;refine kw1 kO (kc1 hy) (kc1 hz) ?_;refine⟨k+1,?_,kN kc0 [],?_⟩
     ·exact⟨by omega,Zbe hinv hy (by simp[hzy])⟩
     ·omega
   ·refine kw1 kO kc0 kc0 ?_;refine Zaj ?_;rw[Zcq (λ j y hj=>hinv j y (by omega))];rfl
 ·refine kE Tryz.func60 ?_;intro hat B X w0;have h1:=ZaU 1 hat rfl;rw[uD]at h1;refine kw1 kO (kc1 hl) (kc2 hv hs) ?_;refine Zaj ?_;simp[Zb7,hl]
theorem Zoq (a:Lv)(ws:List Int)(sep:Int)(hw:wide a):Zaa Tryz.prog 63 [lvD a,Zab ws, .int sep] (.bool (Zb7 a ws sep)):=by
 have hv:=ZlP a hw;rw[<-Zmz]at hv;rcases hva:Zaq a with _|_
 ·rw[hva]at hv;refine kE Tryz.func63 ?_;intro hat B X w0;have h1:=ZaU 1 hat rfl;rw[uD]at h1;refine kw1 kO kc0 (kc1 hv) ?_;refine Zaj ?_;rw[Zb7,hva];rfl
 rw[hva]at hv;by_cases hl:(ws.length:Int)=a.1
 ·have hh:=(ZiO hva).1;simp only[ZeR,uE]at hh;refine kE Tryz.func63 ?_;intro hat B X w0;refine kw kO (kc1 hl) (kc1 hv) ?_
  repeat' first|exact True.intro|refine Bn.mk ?_ ?_|intro hc
  ·refine Zaj ?_;rw[Zb7,szB];simp;omega
  ·refine Zaj ?_;rw[Zb7,szB];simp;omega
  have e:Zb7 a ws sep= !ws.any λ w=> !szB w:=by
   have:szB sep=true:=by rw[szB,uE];omega
   simp[Zb7,hva,this,hl]
  rw[e];refine Zaf (λ(k:Nat)=>k<=ws.length/\∀(j:Nat) y,j<k->ws[j]? =some y->(!szB y)=false) (λ k=>[(1, .d (Zab ws)),(7, .int k)]) (λ k=>[]) (λ k=>ws.length-k) 0 ?_ ?_ ?_
  ·exact⟨uI _,λ j y h=>by omega⟩
  ·exact kN kc0 []
  ·rintro k ⟨hk,hinv⟩;rcases uF k ws.length with hlt|hge
   ·obtain⟨y,hy⟩:=Zad hlt;refine kw kO (kc1 hy) kc0 ?_
    repeat' first|exact True.intro|refine Bn.mk ?_ ?_|intro hc
    all_goals try
     refine Zaj ?_;rw[Zb8 hy (by simp[szB];omega)];rfl
    refine⟨k+1,?_,eL [] _ _ (by refine⟨?_,?_⟩<;>(repeat' first|exact fmn|refine fmc ⟨(by first|rfl|(simp(disch:=omega) only[go_sem,simprocAttr,inL];first|done|omega|(congr 1;done))),?_⟩);done),?_⟩
    ·exact⟨by omega,Zbe hinv hy (by simp[szB];omega)⟩
    ·omega
   ·refine kw1 kO kc0 kc0 ?_;refine Zaj ?_;rw[Zcq (λ j y hj=>hinv j y (by omega))];rfl
 ·refine kE Tryz.func63 ?_;intro hat B X w0;have h1:=ZaU 1 hat rfl;rw[uD]at h1;refine kw1 kO (kc1 hl) (kc1 hv) ?_
  all_goals
   refine Zaj ?_;simp[Zb7,hl]
open Sx (Bd bdD ZbN Net nD)
structure VA (a:Lv)(ws:List Int)(sep:Int):Prop where
 ok:Zb7 a ws sep=true
 v:Zaq a=true
 n:0<=a.1/\a.1<=64
 len:(ws.length:Int)=a.1
 tt:tot a.2.1<=512
 ls:a.2.1.length<=256
 sep:0<=sep/\sep<=1048576
 ws:∀w,w∈ws->0<=w/\w<=1048576
 vert:∀y,y∈a.2.1->∀x,x∈y->0<=x/\x<tot a.2.1
 nodup:a.2.1.flatten.Nodup
 arcs:∀x,x∈a.2.2.1->(0<=x.1/\x.1<tot a.2.1)/\0<=x.2/\x.2<tot a.2.1
theorem ZkE {a:Lv}(h:Zaq a=true):a.2.1.length<=256/\tot a.2.1<=512/\(∀y,y∈a.2.1->∀x,x∈y->0<=x/\x<tot a.2.1)/\a.2.1.flatten.Nodup:=by
 obtain⟨_,_,hr⟩:=Zhq h;obtain⟨h1,h2,h3,_⟩:=ZiL hr;rw[ZfA]at h3;exact⟨h1,h2,λ y hy x hx=>h3.1 x (Ac.2 ⟨y,hy,hx⟩),h3.2⟩
theorem ZfO {α:Type}{g:Nat->List α}{x:α}:∀{n:Nat},x∈Za1 g n↔∃k,k<n/\x∈g k
 |0=>by simp[Za1]
 |n+1=>by
  rw[Za1,yH,ZfO];constructor
  ·rintro(⟨k,h1,h2⟩|h)
   ·exact⟨k,by omega,h2⟩
   ·exact⟨n,by omega,h⟩
  ·rintro⟨k,h1,h2⟩;rcases qS.1 h1 with h|rfl
   ·exact .inl ⟨k,h,h2⟩
   ·exact .inr h2
theorem Zn1 {a:Lv}(h:Zaq a=true):∀x,x∈a.2.2.1->(0<=x.1/\x.1<tot a.2.1)/\0<=x.2/\x.2<tot a.2.1:=by
 obtain⟨b,hm,hr⟩:=Zhq h;have e1:a.2.2.1=ZaP (ZaY a) (ZaS a).2 (ZaS a).2.length:=qW (λ x:Lv=>x.2.2.1) hm;have e2:tot a.2.1=(Zaz (ZaY a) (ZaS a).2 (ZaS a).2.length).length:=by
  obtain⟨_,_,_,h4⟩:=ZiL hr;rw[h4,Zeq]
 rw[e1,e2];intro x hx;obtain⟨e,he,hx⟩:=ZfO.1 hx;obtain⟨y,hy⟩:=Zad he;rw[Zie,hy]at hx;obtain⟨j,hj,rfl⟩:=uN.1 hx;have hj:=yA.1 hj;have c1:=b.chain_at hy (j:=j) (by omega);have c2:=b.chain_at hy (j:=j+1) (by omega);exact⟨⟨c1.1,c1.2.1⟩,c2.1,c2.2.1⟩
theorem VA.of {a:Lv}{ws:List Int}{sep:Int}(h:Zb7 a ws sep=true):VA a ws sep:=by
 have h0:=h;simp only[Zb7,uK,uE,yD,szB]at h;obtain⟨⟨⟨h1,h2⟩,h3⟩,h4⟩:=h;have hh:=(ZiO h1).1;simp only[ZeR,uE]at hh;obtain⟨g1,g2,g3,g4⟩:=ZkE h1;refine⟨h0,h1,⟨hh.1,hh.2.1⟩,h2,g2,g1,h3,λ w hw=>?_,g3,g4,Zn1 h1⟩;have:=yR.1 h4 w hw;simpa using this
def apF (ws:List Int)(sep u v:Int):Int:=(Zdx ws u+Zdx ws v+1)/2+sep
theorem Zii {a:Lv}{ws:List Int}{sep:Int}(h:VA a ws sep)(v:Int):0<=Zdx ws v/\Zdx ws v<=1048576:=by
 rw[Zdx];split
 ·rename_i hv;rw[at0];cases hx:ws[v.toNat]? with
  |none=>simp
  |some w=>exact h.ws w (uA hx)
 ·omega
theorem ZhR {a:Lv}{ws:List Int}{sep:Int}(h:VA a ws sep)(u v:Int):0<=apF ws sep u v/\apF ws sep u v<=2097153:=by
 have:=Zii h u;have:=Zii h v;have:=h.sep;rw[apF];omega
def ZmI (ws:List Int)(sep:Int)(x:List Int)(j:Nat):Bd:=(at0 x (j:Int),at0 x ((j+1:Nat):Int),apF ws sep (at0 x (j:Int)) (at0 x ((j+1:Nat):Int)),0)
def prN (ws:List Int)(sep:Int)(x:List Int)(k:Nat):List Bd:=(List.range k).map (ZmI ws sep x)
theorem Zrk (ws:List Int)(sep:Int)(x:List Int)(k:Nat):prN ws sep x (k+1)=prN ws sep x k++[ZmI ws sep x k]:=by simp[prN,gB]
theorem Zp3 {ws:List Int}{sep:Int}{x:List Int}{j:Nat}{u v:Int}(h1:1<=j)(hu:x[j-1]? =some u)(hv:x[j]? =some v):prN ws sep x j=prN ws sep x (j-1)++[(u,v,apF ws sep u v,0)]:=by
 obtain⟨i,rfl⟩:∃i,j=i+1:=⟨j-1,by omega⟩;rw[kB]at hu|-;rw[Zrk,ZmI];have e1:at0 x (i:Int)=u:=by rw[at0,uL,hu];rfl
 have e2:at0 x ((i+1:Nat):Int)=v:=by rw[at0,uL,hv];rfl
 rw[e1,e2]
theorem Zsg (ws:List Int)(sep:Int)(x:List Int)(k:Nat):(prN ws sep x k).length=k:=by simp[prN]
def prL (ws:List Int)(sep:Int)(ls:List (List Int))(i:Nat):List Bd:=match ls[i]? with
 |some x=>prN ws sep x (x.length-1)
 |none=>[]
def Zbi (ws:List Int)(sep:Int)(ls:List (List Int))(k:Nat):List Bd:=Za1 (prL ws sep ls) k
theorem ZnO {ws:List Int}{sep:Int}{ls:List (List Int)}{k:Nat}{x:List Int}(h:ls[k]? =some x):Zbi ws sep ls (k+1)=Zbi ws sep ls k++prN ws sep x (x.length-1):=by
 rw[Zbi,Za1,prL,h];rfl
def ZdP (ws:List Int)(sep:Int)(ls:List (List Int))(k:Nat)(x:List Int)(j:Nat):List Bd:=Zbi ws sep ls k++prN ws sep x (j-1)
theorem ZoR (ws:List Int)(sep:Int)(ls:List (List Int))(k:Nat)(x:List Int):ZdP ws sep ls k x 1=Zbi ws sep ls k:=by simp[ZdP,prN]
theorem ZoC {ws:List Int}{sep:Int}{ls:List (List Int)}{k:Nat}{x:List Int}{j:Nat}{u v:Int}(h1:1<=j)(hu:x[j-1]? =some u)(hv:x[j]? =some v):
  ZdP ws sep ls k x (j+1)=ZdP ws sep ls k x j++[(u,v,apF ws sep u v,0)]:=by
 rw[ZdP,ZdP,kB,Zp3 h1 hu hv,yO]
theorem ZqX {ws:List Int}{sep:Int}{ls:List (List Int)}{k:Nat}{x:List Int}{j:Nat}(h:ls[k]? =some x)(hj:j-1=x.length-1):Zbi ws sep ls (k+1)=ZdP ws sep ls k x j:=by
 rw[ZnO h,ZdP,hj]
theorem Zjr (ws:List Int)(sep:Int)(ls:List (List Int)):∀k,k<=ls.length->(Zbi ws sep ls k).length<=tot (ls.take k)
 |0,_=>by simp[Zbi,Za1]
 |k+1,hk=>by
  obtain⟨x,hx⟩:=Zad (show k<ls.length by omega);have:=Zjr ws sep ls k (by omega);rw[ZnO hx,uC,Zsg,Zja hx];omega
abbrev Zis (b:Bd):D:= .ag [.int b.1, .int b.2.1, .int b.2.2.1]
theorem Zrq (a:Lv)(ws:List Int)(sep:Int)(h:VA a ws sep):Zaa Tryz.prog 62 [lvD a,Zab ws, .int sep] (.sl ((Zbi ws sep a.2.1 a.2.1.length).map Zis)):=by
 obtain⟨n,ls,ar,cs⟩:=a;have hl:=h.ls;have ht:=h.tt;have hvt:=h.vert;dsimp only at hl ht hvt|-;refine kE Tryz.func62 ?_;intro hat B X w0;refine kw1 kO kc0 kc0 ?_;refine Zas _ (ZdV 7 901 3 rfl rfl) ?_;refine Zaf (λ(k:Nat)=>k<=ls.length) (λ k=>[(1, .d (Zab ws)),(2, .int sep),(7, .ref 901 3 0 (Zbi ws sep ls k).length (Zbi ws sep ls k).length),(14, .d (Zae ls)),(15, .int ls.length),(16, .int k)]) (λ k=>[(901, .row 3 ((Zbi ws sep ls k).map Zis))]) (λ k=>ls.length-k) 0 ?_ ?_ ?_
 ·exact uI _
 ·exact kN kc0 []
 ·intro k hk;have hAl:=Zjr ws sep ls k hk;have hAt:=ZjI ls k;rcases uF k ls.length with hlt|hge
  ·obtain⟨x,hx⟩:=Zad hlt;have hxl:=ZcU (uA hx);have hxv:=hvt x (uA hx);refine kw1 kO (kc1 hx) kc0 ?_;refine Zaf (λ(j:Nat)=>1<=j/\j-1<=x.length-1) (λ j=>[(1, .d (Zab ws)),(2, .int sep),(7, .ref 901 3 0 (ZdP ws sep ls k x j).length (ZdP ws sep ls k x j).length),(9, .d (Zab x)),(10, .int j),(14, .d (Zae ls)),(15, .int ls.length),(16, .int k)]) (λ j=>[(901, .row 3 ((ZdP ws sep ls k x j).map Zis))]) (λ j=>x.length-j) 1 ?_ ?_ ?_
   ·omega
   ·exact kN (kc1 @ZoR) []
   ·rintro j ⟨hj1,hj⟩;have hpl:=Zsg ws sep x (j-1);rcases uF j x.length with hjl|hjl
    ·obtain⟨u,g1⟩:=Zad (show j-1<x.length by omega);obtain⟨v,g2⟩:=Zad hjl;have i1:=hxv _ (uA g1);have i2:=hxv _ (uA g2);have e1:(j:Int)-1=(j-1:Nat):=by omega
     have w1:=Zqj ws u i1.1;have w2:=Zqj ws v i2.1;have b1:=Zii h u;have b2:=Zii h v;have b3:=h.sep;have hq:(Zdx ws u+Zdx ws v+1).tdiv 2+sep=apF ws sep u v:=by
      rw[apF,Cj (by omega)]
     have hp:=ZoC (ws:=ws) (sep:=sep) (ls:=ls) (k:=k) hj1 g1 g2;have hap:=ZhR h u v;have hll:(ZdP ws sep ls k x j).length<=2000:=by rw[ZdP,uC,hpl];omega
     refine kw1 kO (kc5 e1 g1 g2 hq @Zat) (kc2 w1 w2) ?_;refine⟨j+1,?_,kN (kc6 hp @uC.{0} @yT.{0} @uU.{0,0} @uV.{0,0} @yS.{0,0}) [(901,51)],?_⟩
     ·omega
     ·omega
    ·have hj:j-1=x.length-1:=by omega
     have hs:=ZqX (ws:=ws) (sep:=sep) hx hj;refine kw1 kO kc0 kc0 ?_;refine⟨k+1,?_,kN (kc1 hs) [],?_⟩
     ·omega
     ·omega
  ·have hk:k=ls.length:=by omega
   subst hk;refine kw1 kO kc0 kc0 ?_;exact ZcK (o:=901) rfl rfl (by simp) (by rw[uG (by simp)])
end Go.Proofs.YtjjbhjnpeenbkaaGreatDoor.Al
