/- Solve: it finds the least optimal ranks with a certificate. -/
import Derived.Test.YtjjbhjnpeenbkaaGreatDoorSxZ
import Derived.Test.YtjjbhjnpeenbkaaGreatDoorSxQ
import Derived.Test.YtjjbhjnpeenbkaaGreatDoorSxK
set_option linter.unusedSimpArgs false
set_option linter.unusedVariables false
set_option maxHeartbeats 16000000
namespace Go.Proofs.YtjjbhjnpeenbkaaGreatDoor.Sx
open Go Go.PS Go.Proofs
theorem Zjk (l:List Bd)(k:Nat):at0 (zeros l) k=0:=by
 simp only[at0,zeros,qT];split<;>rfl
theorem Zzo {l:List Bd}(v:Int):Zar (Zd6 l v) l.length=-(Zcf l (zeros l) v):=by
 rw[Zcf,<-Zko];refine Ze9 λ k hk=>?_
 obtain⟨b,hb⟩:=Zac hk;have hz:(zeros l)[k]? =some 0:=by simp[zeros,hk]
 simp only[Zd6,Zbq,hb,hz];split<;>split<;>omega
theorem potB_zeros {l:List Bd}{f:List Int}{p:Nat->Int}(h:PotB l f p):PotB l (zeros l) p:=λ k b hk=>
 ⟨(h k b hk).1,λ hf=>by rw[Zjk]at hf;omega⟩
theorem ZsE {l:List Bd}{p:Nat->Int}:PotB l [] p↔PotB l (zeros l) p:=
 ⟨potB_zeros,λ h k b hk=>⟨(h k b hk).1,λ hf=>by simp[at0]at hf⟩⟩
theorem Zpr {W:List Way}{n v:Nat}(hl:W.length=n)(hv:v<n):at0 (Zet W) v=lgW W v:=by
 have:=Zeg (v:=(v:Int)) hl (by omega) (by omega);rw[uK]at this;rw[at0,Zet,uK,uJ,this];rfl
structure Best (n:Nat)(l:List Bd)(r f:List Int):Prop where
 fl:f.length=l.length
 rl:r.length=n
 pos:∀k:Nat,0<=at0 f k/\at0 f k<=1099511627776
 dv:∀v:Nat,v<n->Zcf l f v=0
 opt:∀v:Nat,v<n->Opt (Zau l f) (Zei n) v (at0 r v)
theorem solve_best {n:Nat}{l:List Bd}(hg:nOk ((n:Int),l)=true)(hp:∃p,PotB l (zeros l) p):∃r f,SolveOk ((n:Int),l) r f/\Best n l r f:=by
 obtain⟨hb,hn,hl⟩:=bdsOk_of hg;obtain⟨p,hp⟩:=hp;have hp0:=(Zfv (f:=zeros l) hb).2 hp;obtain⟨W0,hW0,_,_⟩:=Znz hb hn hp0;have hnd:∀v:Nat,v<n->at0 (ZbR l n l.length) v=Zar (Zd6 l v) l.length:=λ v hv=>by
  rw[at0,uK,ZjU hv];rfl
 have hbd:∀v:Nat,v<n->-32768000<=at0 (ZbR l n l.length) v/\at0 (ZbR l n l.length) v<=32768000:=λ v hv=>by
  have:=ZnE (l:=l) (v:=(v:Int)) (m:=l.length) (uI _) (λ k b hk=>by have:=hb k b hk;omega);rw[hnd v hv];omega
 have hps:ZgG (ZbR l n l.length) n<=32768000*(n:Int):=by
  have:=(sumI_le (f:=λ v:Nat=>max 0 (at0 (ZbR l n l.length) v)) (c:=32768000) (m:=n) (λ v hv=>by have:=hbd v hv;omega) n (uI _)).2;exact this
 have hcert:Cert n l 67108864000 (zeros l) (ZbR l n l.length):=
  ⟨by simp[zeros],ZiP _ _ _,λ k=>by rw[Zjk];exact qL _,⟨p,hp0⟩,λ v hv=>by rw[hnd v hv,Zzo],λ v hv=>by have:=hbd v hv;omega,λ k=>by rw[Zjk];omega⟩
 obtain⟨f,nd,hc,hC,hnn⟩:=Zwj hb hn (by decide) ((ZgG (ZbR l n l.length) n).toNat+1) (zeros l) (ZbR l n l.length) hcert (by have:=ZlB (ZbR l n l.length) n;omega);obtain⟨q,hq⟩:=hC.pot;obtain⟨W,hW,hWl,hopt⟩:=Znz hb hn hq;refine⟨Zet W,f,?_,hC.fl,by simp[Zet,hWl],λ k=>?_,λ v hv=>?_,λ v hv=>by rw[Zpr hWl hv];exact hopt v hv⟩
 ·exact⟨n,rfl,by simp[Zet,hWl],hC.fl,ZkD n l f _ W0 W hg hW0 hc hC.fl hW hWl⟩
 ·have:=hC.pos k;have:=hC.cap k;have:=ZlB nd n;omega
 ·
  have hA:=ZtA hb hC.fl (λ _=>true) l.length (uI _);have hz:Zar (ZhO l f (λ _=>true)) l.length=0:=by
   rw[Ze9 (h:=λ _=>0) λ k hk=>by
    obtain⟨b,hbk⟩:=Zac hk;simp only[ZhO,hbk,if_true];omega,Zfa]
  simp only[if_true]at hA;rw[hz]at hA;have hle:∀v:Nat,v<n->Zcf l f v<=0:=λ v hv=>by have:=hC.dv v hv;have:=hnn v hv;omega
  rcases Bg (Zcf l f v) 0 with h1|h1
  ·have:=Zkn (g:=λ v:Nat=>Zar (Zbq l f v) l.length) (h:=λ _=>0) (n:=n) (i:=v) hle hv h1;rw[Zfa]at this;omega
  ·have:=hle v hv;omega
theorem solve_none {n:Nat}{l:List Bd}(hg:nOk ((n:Int),l)=true)(hp:¬∃p,PotB l (zeros l) p):SolveNo ((n:Int),l) 9:=by
 obtain⟨hb,hn,hl⟩:=bdsOk_of hg;refine ZuX n l hg ?_;cases h:Zcg n (Zau l (zeros l)) (Zcd n)with
 |none=>rfl
 |some W=>exact absurd ⟨_,(Zfv hb).1 (ZAz hb h)⟩ hp
section best
variable {n:Nat}{l:List Bd}{r f:List Int}
theorem best_pot (hb:BdsOk n l)(h:Best n l r f):PotB l f (λ v=>at0 r v):=by
 refine(Zfv hb).1 λ v s hs=>?_
 have hv:=steps_good hb v s hs;obtain⟨⟨j,hw⟩,_⟩:=h.opt v hv.1;exact(h.opt s.1.toNat (by omega)).2 _ _ (.step j v _ s hw hs)
theorem best_bd (hb:BdsOk n l)(h:Best n l r f)(v:Nat):0<=at0 r v/\at0 r v<=16777216*(n:Int):=by
 rcases uC v n with hv|hv
 ·exact ZzS hb (h.opt v hv)
 ·have:at0 r v=0:=by rw[at0,uK,uL (by rw[h.rl];exact hv)];rfl
  rw[this];omega
theorem potB_at (hb:BdsOk n l){f:List Int}(h:PotB l f (λ v=>at0 r v)){k:Nat}{b:Bd}(hk:l[k]? =some b):b.2.2.1<=gap r b/\(0<at0 f k->gap r b<=b.2.2.1):=by
 have hbb:=hb k b hk;obtain⟨h1,h2⟩:=h k b hk;dsimp only at h1 h2;rw[show((b.1.toNat:Nat):Int)=b.1 by omega,show((b.2.1.toNat:Nat):Int)=b.2.1 by omega]at h1 h2;rw[gap];exact⟨by omega,λ hf=>by have:=h2 hf;omega⟩
theorem ZBx (hg:nOk ((n:Int),l)=true)(hl:r.length=n)(hr:∀v:Nat,v<n->-34359738368<=at0 r v/\at0 r v<=34359738368):rkOk ((n:Int),l) r=true:=by
 simp only[rkOk,uM,uF,yI,qA];refine⟨⟨hg,by omega⟩,λ x hx=>?_⟩;obtain⟨k,hk⟩:=yW hx;have hkl:=(uB.1 hk).1;have:=hr k (by omega);have e:at0 r k=x:=by rw[at0,uK,hk];rfl
 have e2:Zh9 x=true:=by simp only[Zh9,uF];omega
 rw[e2];decide
theorem Zxh (hg:nOk ((n:Int),l)=true)(hl:r.length=n)(hr:∀v:Nat,v<n->-34359738368<=at0 r v/\at0 r v<=34359738368)(hp:PotB l (zeros l) (λ v=>at0 r v)):feasF ((n:Int),l) r=true:=by
 obtain⟨hb,hn,hll⟩:=bdsOk_of hg;simp only[feasF,uM,yI,qA,uF];refine⟨ZBx hg hl hr,λ b hbm=>?_⟩;obtain⟨k,hk⟩:=yW hbm;have:=(potB_at hb hp hk).1;omega
theorem feas_pot (h:feasF ((n:Int),l) r=true):nOk ((n:Int),l)=true/\r.length=n/\PotB l (zeros l) (λ v=>at0 r v):=by
 have hr:rkOk ((n:Int),l) r=true:=by simp only[feasF,uM]at h;exact h.1
 obtain⟨hg,hlen,_⟩:=Zkf hr;obtain⟨hb,hn,hll⟩:=bdsOk_of hg;simp only[feasF,uM,yI,qA,uF]at h;refine⟨hg,by dsimp only at hlen;omega,λ k b hk=>⟨?_,λ hf=>by rw[Zjk]at hf;omega⟩⟩;have hbb:=hb k b hk;have:=h.2 b (uA hk);rw[gap]at this;dsimp only;rw[show((b.1.toNat:Nat):Int)=b.1 by omega,show((b.2.1.toNat:Nat):Int)=b.2.1 by omega];omega
theorem best_feas (hg:nOk ((n:Int),l)=true)(h:Best n l r f):feasF ((n:Int),l) r=true:=by
 obtain⟨hb,hn,hll⟩:=bdsOk_of hg;exact Zxh hg h.rl (λ v hv=>by have:=best_bd hb h v;omega) (potB_zeros (best_pot hb h))
theorem best_check (hg:nOk ((n:Int),l)=true)(h:Best n l r f):checkF ((n:Int),l) r f=true:=by
 obtain⟨hb,hn,hll⟩:=bdsOk_of hg;simp only[checkF,uM,uF,yI,qA];refine⟨⟨⟨best_feas hg h,h.fl⟩,Zmj.2 λ k hk=>?_⟩,λ x hx=>?_⟩
 ·obtain⟨b,hbk⟩:=Zac hk;obtain⟨x,hx⟩:=Zac (show k<f.length by rw[h.fl];exact hk);have e:at0 f k=x:=by rw[at0,uK,hx];rfl
  have h1:=h.pos k;obtain⟨h2,h3⟩:=potB_at hb (best_pot hb h) hbk;rw[e]at h1 h3;simp only[ZgA,hbk,hx,uF];exact⟨h1.1,h1.2,λ hx0=>by have:=h3 hx0;omega⟩
 ·simp only[uK]at hx;obtain⟨v,hv,rfl⟩:=uP.1 hx;have:=h.dv v (yA.1 hv);rw[Zcf]at this;rw[this];simp
theorem ZvK (hb:BdsOk n l)(h:Best n l r f):Zc7 ((n:Int),l) f=(r,true):=by
 obtain⟨r',h1,h2,h3⟩:=Zrv (f:=f) hb ((Zfv hb).2 (best_pot hb h));rw[h1]
 congr 1
 refine yS λ v=>?_
 rcases uC v n with hv|hv
 ·rw[at0_at (by omega),at0_at (by rw[h.rl];exact hv),Zlw (h3 v hv) (h.opt v hv)]
 ·rw[uL (by omega),uL (by rw[h.rl];exact hv)]
def costB (l:List Bd)(r:List Int):Int:=Zar (costAt r l) l.length
theorem cost_is (h:rkOk ((n:Int),l) r=true):costF ((n:Int),l) r=costB l r:=by rw[costF,if_pos h];rfl
theorem ZwJ (hb:BdsOk n l)(hfl:f.length=l.length)(hdv:∀v:Nat,v<n->Zcf l f v=0)(x:Nat->Int):
  Zar (λ k=>match l[k]? with|some b=>(at0 f k-b.2.2.2)*(x b.2.1.toNat-x b.1.toNat)|none=>0) l.length=0:=by
 have key:∀m,m<=l.length->Zar (λ v=>x v*Zar (Zbq l f v) m) n=Zar (λ k=>match l[k]? with|some b=>(at0 f k-b.2.2.2)*(x b.2.1.toNat-x b.1.toNat)|none=>0) m:=by
  intro m
  induction m with
  |zero=>intro _;simp only[Zar];rw[Ze9 (h:=λ _=>0) (λ v _=>By _),Zfa]
  |succ m ih=>
   intro hm;obtain⟨b,hbm⟩:=Zac (show m<l.length by omega);obtain⟨y,hy⟩:=Zac (show m<f.length by omega);have hbb:=hb m b hbm;have hy0:at0 f m=y:=by rw[at0,uK,hy];rfl
   rw[Zcp,<-ih (by omega),hbm];dsimp only;have e:∀v,v<n->x v*Zar (Zbq l f v) (m+1)=x v*Zar (Zbq l f v) m+((if b.2.1.toNat=v then x b.2.1.toNat*(y-b.2.2.2)else 0)+-(if b.1.toNat=v then x b.1.toNat*(y-b.2.2.2)else 0)):=by
    intro v hv;have ea:Zbq l f v m=(if b.2.1=(v:Int)then y-b.2.2.2 else 0)-(if b.1=(v:Int)then y-b.2.2.2 else 0):=by simp[Zbq,hbm,hy]
    rw[Zcp,ea,zH]
    congr 1
    by_cases c1:b.2.1.toNat=v
    ·have c2:¬b.1.toNat=v:=by omega
     rw[if_pos c1,if_neg c2,if_pos (show b.2.1=(v:Int) by omega),if_neg (show¬b.1=(v:Int) by omega),c1];simp
    ·rw[if_neg c1,if_neg (show¬b.2.1=(v:Int) by omega)];by_cases c2:b.1.toNat=v
     ·rw[if_pos c2,if_pos (show b.1=(v:Int) by omega),c2,Int.zero_sub,Int.mul_neg];omega
     ·rw[if_neg c2,if_neg (show¬b.1=(v:Int) by omega)];simp
   rw[Ze9 e,Zhw,Zhw,Zko,Zic,Zic,if_pos (show b.2.1.toNat<n by omega),if_pos (show b.1.toNat<n by omega),hy0,Da (y-b.2.2.2),Int.sub_mul];omega
 rw[<-key l.length (uI _),Ze9 (h:=λ _=>0) (λ v hv=>by rw[show Zar (Zbq l f v) l.length=0 from hdv v hv];exact By _),Zfa]
def ZhK (l:List Bd)(f:List Int)(k:Nat):Int:=match l[k]? with|some b=>at0 f k*b.2.2.1|none=>0
def Zds (l:List Bd)(f:List Int):Int:=Zar (ZhK l f) l.length
theorem Zk3 (hb:BdsOk n l)(hfl:f.length=l.length)(hdv:∀v:Nat,v<n->Zcf l f v=0)(x:List Int):
  costB l x=Zar (λ k=>match l[k]? with|some b=>at0 f k*gap x b|none=>0) l.length:=by
 have h:=ZwJ hb hfl hdv (λ v=>at0 x v);have e:∀k,k<l.length->(match l[k]? with|some b=>(at0 f k-b.2.2.2)*((λ v:Nat=>at0 x v) b.2.1.toNat-(λ v:Nat=>at0 x v) b.1.toNat)|none=>0)=
   (match l[k]? with|some b=>at0 f k*gap x b|none=>0)+-(costAt x l k):=by
  intro k hk;obtain⟨b,hbk⟩:=Zac hk;have hbb:=hb k b hbk;simp only[hbk,costAt];rw[show((b.1.toNat:Nat):Int)=b.1 by omega,show((b.2.1.toNat:Nat):Int)=b.2.1 by omega,Int.sub_mul,gap];omega
 rw[Ze9 e,Zhw,Zko]at h;rw[costB];omega
theorem Zqd (hb:BdsOk n l)(hfl:f.length=l.length)(hpos:∀k:Nat,0<=at0 f k)(hdv:∀v:Nat,v<n->Zcf l f v=0){x:List Int}(hx:PotB l (zeros l) (λ v=>at0 x v)):Zds l f<=costB l x:=by
 rw[Zk3 hb hfl hdv];refine Zid λ k hk=>?_
 obtain⟨b,hbk⟩:=Zac hk;simp only[ZhK,hbk];exact jD (potB_at hb hx hbk).1 (hpos k)
theorem ZwL (hb:BdsOk n l)(hfl:f.length=l.length)(hpos:∀k:Nat,0<=at0 f k)(hdv:∀v:Nat,v<n->Zcf l f v=0){x:List Int}(hx:PotB l f (λ v=>at0 x v)):costB l x=Zds l f:=by
 rw[Zk3 hb hfl hdv];refine Ze9 λ k hk=>?_
 obtain⟨b,hbk⟩:=Zac hk;simp only[ZhK,hbk];obtain⟨h1,h2⟩:=potB_at hb hx hbk;rcases Bg 0 (at0 f k)with h|h
 ·have:=h2 h;rw[show gap x b=b.2.2.1 by omega]
 ·have:=hpos k;rw[show at0 f k=0 by omega];simp
theorem ZDH (hb:BdsOk n l)(hfl:f.length=l.length)(hpos:∀k:Nat,0<=at0 f k)(hdv:∀v:Nat,v<n->Zcf l f v=0){x:List Int}(hx:PotB l (zeros l) (λ v=>at0 x v))(hc:costB l x<=Zds l f):PotB l f (λ v=>at0 x v):=by
 intro k b hk;refine⟨(hx k b hk).1,λ hf=>qY λ hno=>?_⟩;have hkl:=(uB.1 hk).1;have hbb:=hb k b hk;rw[Zk3 hb hfl hdv]at hc;have hlt:=Zkn (g:=ZhK l f) (h:=λ k=>match l[k]? with|some b=>at0 f k*gap x b|none=>0) (n:=l.length) (i:=k) (λ j hj=>by
  obtain⟨c,hcj⟩:=Zac hj;simp only[ZhK,hcj];exact jD (potB_at hb hx hcj).1 (hpos j)) hkl (by
  simp only[ZhK,hk];refine Int.mul_lt_mul_of_pos_left ?_ hf;have h1:=(hx k b hk).1;dsimp only at h1 hno;rw[show((b.1.toNat:Nat):Int)=b.1 by omega,show((b.2.1.toNat:Nat):Int)=b.2.1 by omega]at h1 hno;rw[gap];omega)
 rw[Zds]at hc;omega
theorem best_le (hb:BdsOk n l)(h:Best n l r f){x:List Int}(hx:PotB l (zeros l) (λ v=>at0 x v)):
  costB l r<=costB l x/\(costB l x=costB l r->(∀v:Nat,v<n->0<=at0 x v)->∀v:Nat,v<n->at0 r v<=at0 x v):=by
 have e1:=ZwL hb h.fl (λ k=>(h.pos k).1) h.dv (best_pot hb h);have e2:=Zqd hb h.fl (λ k=>(h.pos k).1) h.dv hx;refine⟨by omega,λ hc h0 v hv=>?_⟩;have hp:=(Zfv hb).2 (ZDH hb h.fl (λ k=>(h.pos k).1) h.dv hx (by omega));obtain⟨⟨j,hw⟩,_⟩:=h.opt v hv;have:=Zuw (lo:=0) hp (λ u hu=>h0 u (mem_allI.1 hu)) hw;omega
end best
theorem Zn5 {P:Program}{B X:Nat->Prop}{w0:W0}{n:Nat}{Q:Exit->St->Prop}{S:St}{id:Nat}(k:Nat)(_hid:Nat.blt id k=true)(own:Nat->Bool)(ZcE:P.follows .mixedOrders=true){ops:Array Oper}{draw:Bool}
  (h:Zad P own ops.toList ops.toList S [] λ S' fs=>Zh5 n ops draw fs.reverse=true/\Q .normal S'):PW P B X w0 n (.region id ops draw) Q S:=ZgH own ZcE h
section mid
variable {n:Nat}{l:List Bd}{a b f f2:List Int}
theorem ZjN {h:Nat->Int}:∀{k v:Nat},v<k->ZbV h k<=h v:=by
 intro k
 induction k with
 |zero=>intro v hv;omega
 |succ k ih=>
  intro v hv;rw[ZbV];rcases uC v k with h1|h1
  ·have:=ih h1;split
   ·rename_i hc;rcases hc with hc|hc
    ·omega
    ·omega
   ·exact this
  ·have:v=k:=by omega
   subst this;split<;>omega
theorem ZjM {h:Nat->Int}{m:Int}:∀{k:Nat},0<k->(∀v,v<k->m<=h v)->m<=ZbV h k:=by
 intro k
 induction k with
 |zero=>intro h0;omega
 |succ k ih=>
  intro _ hh;rw[ZbV];have h1:=hh k (by omega);split
  ·exact h1
  ·rename_i hc;exact ih (by omega) λ v hv=>hh v (by omega)
end mid
set_option maxRecDepth 100000
abbrev RS :=Int×Bool×Int×Int×Int
def ZgJ (l:List Bd)(f:List Int)(k:Nat):List RS:=match l[k]? with
 |some b=>((k:Int),false,b.1,b.2.1,b.2.2.1)::if 0<at0 f k then[((k:Int),true,b.2.1,b.1,-b.2.2.1)]else[]
 |none=>[]
def rsL (l:List Bd)(f:List Int)(k:Nat):List RS:=Za5 (ZgJ l f) k
theorem ZlJ {l:List Bd}{f:List Int}{s:RS}(h:s∈rsL l f l.length):∃(k:Nat) (b:Bd),l[k]? =some b/\(s=((k:Int),false,b.1,b.2.1,b.2.2.1)\/(0<at0 f k/\s=((k:Int),true,b.2.1,b.1,-b.2.2.1))):=by
 obtain⟨k,hk,h⟩:=ZjP.1 h;obtain⟨b,hb⟩:=Zac hk;rw[ZgJ,hb]at h;refine⟨k,b,hb,?_⟩;rcases yD.1 h with h|h
 ·exact .inl h
 ·split at h
  ·rename_i c;exact .inr ⟨c,uT.1 h⟩
  ·cases h
theorem Zoi (l:List Bd)(f:List Int):∀k,(rsL l f k).length<=2*k:=by
 intro k
 induction k with
 |zero=>exact uI _
 |succ k ih=>
  have:(ZgJ l f k).length<=2:=by
   rw[ZgJ];split
   ·split<;>simp
   ·simp
  show(rsL l f k++ZgJ l f k).length<=_;rw[uH];omega
theorem ZBP {l:List Bd}{f:List Int}{k:Nat}{b:Bd}(hb:l[k]? =some b):
  ((k:Int),false,b.1,b.2.1,b.2.2.1)∈rsL l f l.length/\(0<at0 f k->((k:Int),true,b.2.1,b.1,-b.2.2.1)∈rsL l f l.length):=by
 have hk:=(uB.1 hb).1;refine⟨ZjP.2 ⟨k,hk,by rw[ZgJ,hb];exact List.mem_cons_self ..⟩,λ h=>ZjP.2 ⟨k,hk,by rw[ZgJ,hb];dsimp only;rw[if_pos h];simp⟩⟩
abbrev CS :=List Int×List Int×Int
def cyS (L:List RS)(σ:CS)(i:Nat):CS:=match L[i]? with
 |some s=>if at0 σ.1 s.2.2.2.1<at0 σ.1 s.2.2.1+s.2.2.2.2 then(σ.1.set s.2.2.2.1.toNat (at0 σ.1 s.2.2.1+s.2.2.2.2),σ.2.1.set s.2.2.2.1.toNat (i:Int),s.2.2.2.1)else σ
 |none=>σ
def cyI (L:List RS)(σ:CS):Nat->CS
 |0=>(σ.1,σ.2.1,-1)
 |i+1=>cyS L (cyI L σ i) i
def cyR (L:List RS)(k:Nat):Nat->CS
 |0=>(List.replicate k 0,List.replicate k 0,-1)
 |m+1=>cyI L (cyR L k m) L.length
def Zih (k:Nat)(L:List RS):Prop:=∀(i:Nat) s,L[i]? =some s->0<=s.2.2.1/\s.2.2.1<(k:Int)/\0<=s.2.2.2.1/\s.2.2.2.1<(k:Int)/\s.2.2.1≠s.2.2.2.1/\-16777216<=s.2.2.2.2/\s.2.2.2.2<=16777216
theorem ZlI {n:Nat}{l:List Bd}{f:List Int}(hb:BdsOk n l):Zih n (rsL l f l.length):=λ i s h=>by
 obtain⟨k,b,hk,rfl|⟨_,rfl⟩⟩:=ZlJ (uA h)
 ·have:=hb k b hk;dsimp only;omega
 ·have:=hb k b hk;dsimp only;omega
theorem Zps (k:Nat)(v:Int):at0 (List.replicate k 0) v=0:=by
 rw[at0,qT];split<;>rfl
structure CI (L:List RS)(k m i:Nat)(σ:CS)(τ:Nat->Nat):Prop where
 dl:σ.1.length=k
 ll:σ.2.1.length=k
 now:∀v,τ v<=m*(L.length+1)+i
 set:∀v:Nat,v<k->τ v≠0->∃(j:Nat) (s:RS),at0 σ.2.1 v=j/\L[j]? =some s/\s.2.2.2.1=v/\at0 σ.1 v<=at0 σ.1 s.2.2.1+s.2.2.2.2/\
  (τ v<τ s.2.2.1.toNat->at0 σ.1 v<at0 σ.1 s.2.2.1+s.2.2.2.2)/\(τ v<=L.length\/τ v<τ s.2.2.1.toNat+(L.length+1))
 inj:∀u v,τ u≠0->τ u=τ v->u=v
 done:∀(j:Nat) s,L[j]? =some s->∀P,((j<i/\P=m*(L.length+1)+j+1)\/(i<=j/\1<=m/\P+(L.length+1)=m*(L.length+1)+j+1))->τ s.2.2.1.toNat<=P->
  at0 σ.1 s.2.2.1+s.2.2.2.2<=at0 σ.1 s.2.2.2.1
 atn:(σ.2.2=-1/\∀v,τ v<=m*(L.length+1))\/(0<=σ.2.2/\σ.2.2<(k:Int)/\m*(L.length+1)<τ σ.2.2.toNat)
 bd:∀v:Nat,v<k->-(16777216*((m*(L.length+1)+i:Nat):Int))<=at0 σ.1 v/\at0 σ.1 v<=16777216*((m*(L.length+1)+i:Nat):Int)
theorem CI.next {L:List RS}{k m i:Nat}{σ:CS}{τ:Nat->Nat}(hg:Zih k L)(h:CI L k m i σ τ)(hi:i<L.length):∃τ',CI L k m (i+1) (cyS L σ i) τ':=by
 obtain⟨s,hs⟩:=Zac hi;obtain⟨g1,g2,g3,g4,g5,g6,g7⟩:=hg i s hs;rw[cyS,hs];dsimp only;have hM:∀_:Unit,1<=m->∃Q,m*(L.length+1)=Q+(L.length+1):=λ _ h1=>⟨(m-1)*(L.length+1),by
  obtain⟨m',rfl⟩:∃m',m=m'+1:=⟨m-1,by omega⟩;rw[qH,Nat.one_mul];rfl⟩
 have hM0:m=0->m*(L.length+1)=0:=λ h=>by rw[h,jL]
 obtain⟨d,la,at_⟩:=σ;obtain⟨dl,ll,now,set,inj,done,atn,bd⟩:=h;dsimp only at*;obtain⟨u,hu⟩:∃u:Nat,s.2.2.1=u:=⟨s.2.2.1.toNat,by omega⟩;obtain⟨w,hw⟩:∃w:Nat,s.2.2.2.1=w:=⟨s.2.2.2.1.toNat,by omega⟩;by_cases c:at0 d s.2.2.2.1<at0 d s.2.2.1+s.2.2.2.2
 ·rw[if_pos c];have sd:∀(v:Int),0<=v->at0 (d.set s.2.2.2.1.toNat (at0 d s.2.2.1+s.2.2.2.2)) v=if v=s.2.2.2.1 then at0 d s.2.2.1+s.2.2.2.2 else at0 d v:=λ v hv=>by
   rw[Zel _ _ _ _ hv];by_cases e:v=s.2.2.2.1
   ·rw[if_pos ⟨by omega,by omega⟩,if_pos e]
   ·rw[if_neg (by omega),if_neg e]
  have sl:∀(v:Int),0<=v->at0 (la.set s.2.2.2.1.toNat (i:Int)) v=if v=s.2.2.2.1 then(i:Int)else at0 la v:=λ v hv=>by
   rw[Zel _ _ _ _ hv];by_cases e:v=s.2.2.2.1
   ·rw[if_pos ⟨by omega,by omega⟩,if_pos e]
   ·rw[if_neg (by omega),if_neg e]
  refine⟨λ v=>if v=w then m*(L.length+1)+i+1 else τ v,⟨by rw[yJ];exact dl,by rw[yJ];exact ll,λ v=>?_,λ v hv ht=>?_,λ a b ha hab=>?_,λ j z hz P hP hle=>?_, .inr ⟨g3,g4,?_⟩,λ v hv=>?_⟩⟩
  ·(try dsimp only)
   split
   ·omega
   ·have:=now v;omega
  ·(try dsimp only at ht|-)
   by_cases e:v=w
   ·subst e;rw[if_pos rfl];refine⟨i,s,by rw[sl _ (by omega),if_pos hw.symm],hs,hw,?_,λ h=>?_,?_⟩
    ·rw[sd _ (by omega),if_pos hw.symm,sd _ g1,if_neg g5];exact qL _
    ·rw[if_neg (by omega)]at h;have:=now s.2.2.1.toNat;omega
    ·rw[if_neg (by omega)];rcases qU m with hm|hm
     ·have:=hM0 hm
      left;omega
     ·obtain⟨Q,hQ⟩:=hM () hm;rcases uC (Q+i+1) (τ s.2.2.1.toNat)with h1|h1
      ·right;omega
      ·have:=done i s hs (Q+i+1) (.inr ⟨uI _,hm,by omega⟩) h1;omega
   ·rw[if_neg e]at ht|-;obtain⟨j,z,e1,e2,e3,e4,e5,e6⟩:=set v hv ht;obtain⟨z1,z2,z3,z4,z5,_⟩:=hg j z e2;have nv:=now v;have dv:at0 (d.set s.2.2.2.1.toNat (at0 d s.2.2.1+s.2.2.2.2)) v=at0 d v:=by rw[sd _ (by omega),if_neg (by omega)]
    refine⟨j,z,by rw[sl _ (by omega),if_neg (by omega)];exact e1,e2,e3,?_⟩;rw[dv,sd _ z1];by_cases ez:z.2.2.1=s.2.2.2.1
    ·rw[if_pos ez,if_pos (by omega)];rw[ez]at e4;exact⟨by omega,λ _=>by omega, .inr (by omega)⟩
    ·rw[if_neg ez,if_neg (by omega)];exact⟨e4,e5,e6⟩
  ·(try dsimp only at ha hab)
   have na:=now a;have nb:=now b;by_cases ea:a=w
   ·rw[if_pos ea]at hab;by_cases eb:b=w
    ·rw[ea,eb]
    ·rw[if_neg eb]at hab;omega
   ·rw[if_neg ea]at ha hab;by_cases eb:b=w
    ·rw[if_pos eb]at hab;omega
    ·rw[if_neg eb]at hab;exact inj a b ha hab
  ·(try dsimp only at hle)
   obtain⟨z1,z2,z3,z4,z5,_⟩:=hg j z hz;have hjl:=(uB.1 hz).1;rw[sd _ z1,sd _ z3];by_cases ej:j=i
   ·subst ej;rw[hs]at hz;cases hz;rw[if_neg g5,if_pos rfl];exact qL _
   ·by_cases ez:z.2.2.1.toNat=w
    ·rw[if_pos ez]at hle;omega
    ·rw[if_neg ez]at hle;have hd:=done j z hz P (by omega) hle;rw[if_neg (by omega)];by_cases e2:z.2.2.2.1=s.2.2.2.1
     ·rw[if_pos e2];rw[e2]at hd;omega
     ·rw[if_neg e2];exact hd
  ·show m*(L.length+1)<if s.2.2.2.1.toNat=w then m*(L.length+1)+i+1 else τ s.2.2.2.1.toNat
   rw[if_pos (by omega)];omega
  ·rw[sd _ (by omega)];split
   ·have:=bd s.2.2.1.toNat (by omega);rw[show((s.2.2.1.toNat:Nat):Int)=s.2.2.1 by omega]at this;omega
   ·have:=bd v hv;omega
 ·rw[if_neg c];refine⟨τ,⟨dl,ll,λ v=>by have:=now v;omega,set,inj,λ j z hz P hP hle=>?_,atn,λ v hv=>by have:=bd v hv;(try dsimp only);omega⟩⟩;by_cases ej:j=i
  ·subst ej;rw[hs]at hz;cases hz
   (try dsimp only)
   omega
  ·exact done j z hz P (by omega) hle
theorem CI.inner {L:List RS}{k m:Nat}{σ:CS}{τ:Nat->Nat}(hg:Zih k L)(h:CI L k m 0 (cyI L σ 0) τ):∀i,i<=L.length->∃τ',CI L k m i (cyI L σ i) τ'
 |0,_=>⟨τ,h⟩
 |i+1,hi=>by
  obtain⟨τ',h'⟩:=CI.inner hg h i (by omega);exact h'.next hg (by omega)
theorem CI.turn {L:List RS}{k m:Nat}{σ:CS}{τ:Nat->Nat}(h:CI L k m L.length σ τ):CI L k (m+1) 0 (cyI L σ 0) τ:=by
 obtain⟨dl,ll,now,set,inj,done,atn,bd⟩:=h;have e:(m+1)*(L.length+1)=m*(L.length+1)+L.length+1:=by rw[qH];omega
 refine⟨dl,ll,λ v=>by have:=now v;omega,set,inj,λ j s hs P hP hle=>?_, .inl ⟨rfl,λ v=>by have:=now v;omega⟩,λ v hv=>by have:=bd v hv;dsimp only[cyI];omega⟩;have hj:=(uB.1 hs).1;exact done j s hs P (by omega) hle
theorem CI.all {L:List RS}{k:Nat}(hg:Zih k L):∀m,∃τ,CI L k m L.length (cyR L k (m+1)) τ
 |0=>by
  refine CI.inner (τ:=λ _=>0) hg ⟨by simp[cyI,cyR],by simp[cyI,cyR],λ v=>uG _,λ v _ h=>absurd rfl h,λ u v h=>absurd rfl h,λ j s hs P hP=>by omega, .inl ⟨rfl,λ v=>uG _⟩,λ v hv=>?_⟩ L.length (uI _);rw[cyI,cyR];dsimp only;rw[Zps];omega
 |m+1=>by
  obtain⟨τ,h⟩:=CI.all hg m;exact CI.inner hg h.turn L.length (uI _)
theorem CI.quiet {L:List RS}{k m:Nat}{σ:CS}{τ:Nat->Nat}(h:CI L k m L.length σ τ)(hq:σ.2.2<0):∀s,s∈L->at0 σ.1 s.2.2.1+s.2.2.2.2<=at0 σ.1 s.2.2.2.1:=by
 intro s hs;obtain⟨j,hj⟩:=gN.1 hs;have hjl:=(uB.1 hj).1;rcases h.atn with⟨_,ht⟩|⟨h1,_⟩
 ·exact h.done j s hj _ (.inl ⟨hjl,rfl⟩) (by have:=ht s.2.2.1.toNat;omega)
 ·omega
def Zam (L:List RS)(la:List Int):List Way:=la.map λ j=>match L[j.toNat]? with
 |some s=>(0,s.2.2.1,(s.2.2.2.1,s.2.2.2.2,s.1,s.2.1),false)
 |none=>ZdS
theorem ZEf {L:List RS}{la:List Int}{v:Int}{j:Nat}{s:RS}(h0:0<=v)(hv:v<la.length)(hj:at0 la v=j)(hs:L[j]? =some s):wAt (Zam L la) v=(0,s.2.2.1,(s.2.2.2.1,s.2.2.2.2,s.1,s.2.1),false):=by
 have h1:=Zdq h0 hv;rw[wAt,Zam,uJ,h1,hj,yY,yK,uK,hs]
theorem Zru {P:Nat->Prop}:∀n,P n->∃k,P k/\k<=n/\∀j,j<k->¬P j:=by
 intro n
 induction n using Nat.strongRecOn with
 |ind n ih=>
  intro h;by_cases c:∃j,j<n/\P j
  ·obtain⟨j,hj,hp⟩:=c;obtain⟨k,h1,h2,h3⟩:=ih j hj hp;exact⟨k,h1,by omega,h3⟩
  ·exact⟨n,h,uI _,λ j hj hp=>c ⟨j,hj,hp⟩⟩
structure Clo (n:Nat)(l:List Bd)(f:List Int)(L:List RS)(la:List Int)(c:Int)(K:Nat):Prop where
 pos:1<=K
 le:K<=n
 back:Zaj (Zam L la) c K=c
 new:∀q,1<=q->q<K->Zaj (Zam L la) c q≠c
 ok:∀q,q<K->0<=Zaj (Zam L la) c q/\Zaj (Zam L la) c q<(n:Int)/\∃(j:Nat) (s:RS),at0 la (Zaj (Zam L la) c q)=j/\L[j]? =some s/\Zaj (Zam L la) c (q+1)=s.2.2.1/\Zax (Zam L la) c q=(s.2.2.2.1,s.2.2.2.2,s.1,s.2.1)
 chain:ChainOk n l f (Zam L la) c K
 gain:1<=Zar (λ q=>(Zax (Zam L la) c q).2.1) K
theorem Zt2 (g:Nat->Int):∀n,Zar (λ q=>g (q+1)-g q) n=g n-g 0
 |0=>by simp[Zar]
 |n+1=>by rw[Zcp,Zt2 g n];omega
theorem ZDw {g:Nat->Int}{n i:Nat}(h:∀q,q<n->0<=g q)(hi:i<n)(hp:0<g i):1<=Zar g n:=by
 have:=Zkn (g:=λ _=>0) (h:=g) (n:=n) (i:=i) (λ v hv=>h v hv) hi hp;rw[Zfa]at this;omega
theorem CI.found {n:Nat}{l:List Bd}{f:List Int}(hb:BdsOk n l){σ:CS}{τ:Nat->Nat}(h:CI (rsL l f l.length) n n (rsL l f l.length).length σ τ)(hq:¬σ.2.2<0):
  (∀q,q<=n->0<=Zaj (Zam (rsL l f l.length) σ.2.1) σ.2.2 q/\Zaj (Zam (rsL l f l.length) σ.2.1) σ.2.2 q<(n:Int)/\∃(j:Nat) (s:RS),at0 σ.2.1 (Zaj (Zam (rsL l f l.length) σ.2.1) σ.2.2 q)=j/\(rsL l f l.length)[j]? =some s/\Zaj (Zam (rsL l f l.length) σ.2.1) σ.2.2 (q+1)=s.2.2.1)/\
  ∃K,Clo n l f (rsL l f l.length) σ.2.1 (Zaj (Zam (rsL l f l.length) σ.2.1) σ.2.2 n) K:=by
 have hg:=ZlI (f:=f) hb;have hmem:∀(j:Nat) s,(rsL l f l.length)[j]? =some s->_:=λ j s h=>ZlJ (uA h)
 generalize rsL l f l.length=L at*;obtain⟨d,la,c⟩:=σ;dsimp only at*;obtain⟨dl,ll,now,set,inj,done,atn,bd⟩:=h;dsimp only at*;obtain⟨a1,a2,a3⟩:0<=c/\c<(n:Int)/\n*(L.length+1)<τ c.toNat:=by
  rcases atn with⟨h1,_⟩|h1
  ·omega
  ·exact h1
 have one:∀v:Int,0<=v->v<(n:Int)->τ v.toNat≠0->∃(j:Nat) (s:RS),at0 la v=j/\L[j]? =some s/\s.2.2.2.1=v/\wAt (Zam L la) v=(0,s.2.2.1,(s.2.2.2.1,s.2.2.2.2,s.1,s.2.1),false)/\
   at0 d v<=at0 d s.2.2.1+s.2.2.2.2/\(τ v.toNat<τ s.2.2.1.toNat->at0 d v<at0 d s.2.2.1+s.2.2.2.2)/\(τ v.toNat<=L.length\/τ v.toNat<τ s.2.2.1.toNat+(L.length+1)):=λ v h0 h1 ht=>by
  obtain⟨j,s,e1,e2,e3,e4,e5,e6⟩:=set v.toNat (by omega) ht;rw[show((v.toNat:Nat):Int)=v by omega]at e1 e3 e4 e5;exact⟨j,s,e1,e2,e3,ZEf h0 (by omega) e1 e2,e4,e5,e6⟩
 have hx:∀q,q<=n->0<=Zaj (Zam L la) c q/\Zaj (Zam L la) c q<(n:Int)/\(n-q)*(L.length+1)<τ (Zaj (Zam L la) c q).toNat:=by
  intro q
  induction q with
  |zero=>intro _;exact⟨a1,a2,a3⟩
  |succ q ih=>
   intro hqn;obtain⟨i1,i2,i3⟩:=ih (by omega);obtain⟨j,s,e1,e2,e3,e4,_,_,e6⟩:=one _ i1 i2 (by omega);obtain⟨g1,g2,_⟩:=hg j s e2;rw[ZdU,e4];dsimp only;have e:(n-q)*(L.length+1)=(n-(q+1))*(L.length+1)+(L.length+1):=by
    rw[show n-q=n-(q+1)+1 by omega,qH,Nat.one_mul]
   exact⟨g1,g2,by omega⟩
 have two:∀q,q<=n->0<=Zaj (Zam L la) c q/\Zaj (Zam L la) c q<(n:Int)/\τ (Zaj (Zam L la) c q).toNat≠0:=λ q hq=>by
  have:=hx q hq;exact⟨this.1,this.2.1,by omega⟩
 refine⟨λ q hq=>?_,?_⟩
 ·obtain⟨i1,i2,i3⟩:=two q hq;obtain⟨j,s,e1,e2,e3,e4,_⟩:=one _ i1 i2 i3;exact⟨i1,i2,j,s,e1,e2,by rw[ZdU,e4]⟩
 obtain⟨a,b,hab,hbn,he⟩:∃a b,a<b/\b<=n/\Zaj (Zam L la) c a=Zaj (Zam L la) c b:=by
  apply qY;intro hno;have:=Znm (g:=λ q=>(Zaj (Zam L la) c q).toNat) (k:=n+1) (n:=n) (λ i hi=>by have:=two i (by omega);(try dsimp only);omega)
   (λ i j hij hj hh=>hno ⟨i,j,hij,by omega,by have:=two i (by omega);have:=two j (by omega);(try dsimp only at hh);omega⟩)
  omega
 have hper:∀t,Zaj (Zam L la) c (a+t)=Zaj (Zam L la) c (b+t):=λ t=>by rw[Zen,Zen,he]
 have hret:Zaj (Zam L la) (Zaj (Zam L la) c n) (b-a)=Zaj (Zam L la) c n:=by
  rw[<-Zen,show n+(b-a)=b+(n-a) by omega,<-hper,show a+(n-a)=n by omega]
 obtain⟨K,⟨k1,k2⟩,k3,k4⟩:=Zru (P:=λ q=>1<=q/\Zaj (Zam L la) (Zaj (Zam L la) c n) q=Zaj (Zam L la) c n) (b-a) ⟨by omega,hret⟩;have hin:∀q,q<=K->0<=Zaj (Zam L la) (Zaj (Zam L la) c n) q/\Zaj (Zam L la) (Zaj (Zam L la) c n) q<(n:Int)/\τ (Zaj (Zam L la) (Zaj (Zam L la) c n) q).toNat≠0:=λ q hq=>by
  rw[<-Zen];rcases uC (n+q) b with h1|h1
  ·exact two _ (by omega)
  ·rw[show n+q=b+(n+q-b) by omega,<-hper];exact two _ (by omega)
 generalize Zaj (Zam L la) c n=e at*;have hst:∀q,q<K->∃(j:Nat) (s:RS),at0 la (Zaj (Zam L la) e q)=j/\L[j]? =some s/\s.2.2.2.1=Zaj (Zam L la) e q/\Zaj (Zam L la) e (q+1)=s.2.2.1/\Zax (Zam L la) e q=(s.2.2.2.1,s.2.2.2.2,s.1,s.2.1)/\
   at0 d (Zaj (Zam L la) e q)<=at0 d s.2.2.1+s.2.2.2.2/\(τ (Zaj (Zam L la) e q).toNat<τ s.2.2.1.toNat->at0 d (Zaj (Zam L la) e q)<at0 d s.2.2.1+s.2.2.2.2):=λ q hq=>by
  obtain⟨i1,i2,i3⟩:=hin q (by omega);obtain⟨j,s,e1,e2,e3,e4,e5,e6,_⟩:=one _ i1 i2 i3;exact⟨j,s,e1,e2,e3,by rw[ZdU,e4],by rw[Zax,e4],e5,e6⟩
 have hinj:∀i j,i<j->j<K->Zaj (Zam L la) e i≠Zaj (Zam L la) e j:=λ i j hij hj hh=>by
  refine k4 (i+(K-j)) (by omega) ⟨by omega,?_⟩;rw[Zen,hh,<-Zen,show j+(K-j)=K by omega,k2]
 refine⟨K,k1,by omega,k2,λ q q1 q2 hh=>k4 q q2 ⟨q1,hh⟩,λ q hq=>?_,⟨λ q hq=>?_,hinj⟩,?_⟩
 ·obtain⟨j,s,e1,e2,e3,e4,e5,_⟩:=hst q hq;obtain⟨i1,i2,_⟩:=hin q (by omega);exact⟨i1,i2,j,s,e1,e2,e4,e5⟩
 ·obtain⟨j,s,e1,e2,e3,e4,e5,_⟩:=hst q hq;obtain⟨k,b,hk,rfl|⟨hp,rfl⟩⟩:=hmem j s e2
  ·exact⟨k,b,hk,by rw[e5], .inl ⟨by rw[e5],e4.symm,e3⟩⟩
  ·exact⟨k,b,hk,by rw[e5], .inr ⟨by rw[e5],hp,e4.symm,e3⟩⟩
 ·
  have hs:∃q,q<K/\τ (Zaj (Zam L la) e q).toNat<τ (Zaj (Zam L la) e (q+1)).toNat:=by
   apply qY;intro hno;have hd:∀q,q<K->τ (Zaj (Zam L la) e (q+1)).toNat<=τ (Zaj (Zam L la) e q).toNat:=λ q hq=>Nat.not_lt.1 λ hh=>hno ⟨q,hq,hh⟩
   have hall:∀q,q<K->τ (Zaj (Zam L la) e (q+1)).toNat<=τ (Zaj (Zam L la) e 1).toNat:=by
    intro q
    induction q with
    |zero=>intro _;exact uI _
    |succ q ih=>intro hq;exact gQ (hd (q+1) hq) (ih (by omega))
   have h1:=hall (K-1) (by omega);rw[show K-1+1=K by omega,k2]at h1;have h2:τ (Zaj (Zam L la) e 1).toNat<=τ e.toNat:=hd 0 (by omega);obtain⟨i1,i2,i3⟩:=hin 0 (by omega);have i0:Zaj (Zam L la) e 0=e:=rfl;rw[i0]at i1 i2 i3;have h3:=inj e.toNat (Zaj (Zam L la) e 1).toNat i3 (by omega);obtain⟨j,s,e1,e2,e3,e4,_⟩:=hst 0 (by omega);obtain⟨g1,g2,g3,g4,g5,_⟩:=hg j s e2;rw[i0]at e3;rw[qM]at e4;omega
  obtain⟨q0,hq0,hlt⟩:=hs;have hsum:Zar (λ q=>at0 d (Zaj (Zam L la) e (q+1))-at0 d (Zaj (Zam L la) e q)+(Zax (Zam L la) e q).2.1) K=Zar (λ q=>(Zax (Zam L la) e q).2.1) K:=by
   rw[Zhw (λ q=>at0 d (Zaj (Zam L la) e (q+1))-at0 d (Zaj (Zam L la) e q)),Zt2 (λ q=>at0 d (Zaj (Zam L la) e q)),k2];show at0 d e-at0 d e+_=_;omega
  rw[<-hsum];refine ZDw (i:=q0) (λ q hq=>?_) hq0 ?_
  ·obtain⟨j,s,e1,e2,e3,e4,e5,e6,e7⟩:=hst q hq;rw[e4,e5];dsimp only;omega
  ·obtain⟨j,s,e1,e2,e3,e4,e5,e6,e7⟩:=hst q0 hq0;rw[e4]at hlt;have:=e7 hlt;rw[e4,e5];dsimp only;omega
theorem Zwl {l:List Bd}{f:List Int}{i:Nat}{b:Bd}{x:Int}(hfl:f.length=l.length)(hb:l[i]? =some b):Zds l (f.set i (at0 f i+x))=Zds l f+x*b.2.2.1:=by
 have hil:=(uB.1 hb).1;refine ZoF (i:=i) hil λ k hk=>?_
 obtain⟨c,hc⟩:=Zac hk;simp only[ZhK,hc];rw[Zel _ _ _ _ (by omega)];by_cases h:i=k
 ·subst h;rw[hb]at hc;cases hc;rw[if_pos ⟨rfl,by omega⟩,if_pos rfl,Int.add_mul]
 ·rw[if_neg (by omega),if_neg h,jW]
section clo
variable {n:Nat}{l:List Bd}{f:List Int}{L:List RS}{la:List Int}{c m:Int}{K:Nat}
theorem Zwr (hfl:f.length=l.length)(h:ChainOk n l f (Zam L la) c K)(hs:∀q,q<K->∃(k:Nat) (b:Bd),l[k]? =some b/\(Zax (Zam L la) c q).2.2.1=k/\(((Zax (Zam L la) c q).2.2.2=false/\(Zax (Zam L la) c q).2.1=b.2.2.1)\/((Zax (Zam L la) c q).2.2.2=true/\(Zax (Zam L la) c q).2.1=-b.2.2.1))):
  ∀q,q<=K->Zds l (Zbv (Zam L la) f m c q)=Zds l f+m*Zar (λ q=>(Zax (Zam L la) c q).2.1) q:=by
 intro q
 induction q with
 |zero=>intro _;show Zds l f=Zds l f+m*0;omega
 |succ q ih=>
  intro hq;obtain⟨k,b,hk,e1,e2⟩:=hs q (by omega);rw[Zki,e1,uK,Zwl (by rw[Zgd,hfl]) hk,ih (by omega),Zcp,zH,<-zB];rcases e2 with⟨h1,h2⟩|⟨h1,h2⟩
  ·rw[h2,show(if(Zax (Zam L la) c q).2.2.2=true then -m else m)=m by rw[h1];rfl]
  ·rw[h2,show(if(Zax (Zam L la) c q).2.2.2=true then -m else m)=-m by rw[h1];rfl,Int.neg_mul,Int.mul_neg]
end clo
attribute [local irreducible] Zad wpG Zaa Zah
abbrev rsD (s:RS):D:= .ag [.int s.1, .bool s.2.1, .int s.2.2.1, .int s.2.2.2.1, .int s.2.2.2.2]
theorem ZBQ {l:List Bd}{f:List Int}{k:Nat}{b:Bd}(h:l[k]? =some b):rsL l f (k+1)=rsL l f k++((k:Int),false,b.1,b.2.1,b.2.2.1)::if 0<at0 f k then[((k:Int),true,b.2.1,b.1,-b.2.2.1)]else[]:=by
 show rsL l f k++ZgJ l f k=_;rw[ZgJ,h]
theorem ZBR (n:Nat)(l:List Bd)(f:List Int)(hg:nOk ((n:Int),l)=true)(hfl:f.length=l.length):
  Zah Tryz.prog 135 [.d (nD ((n:Int),l)), .ref 1000 1 0 l.length l.length] [(1000, .row 1 (f.map D.int)),(2000, .dead)] (.ref 2000 5 0 (rsL l f l.length).length (rsL l f l.length).length) [(1000, .row 1 (f.map D.int)),(2000, .row 5 ((rsL l f l.length).map rsD))]:=by
 obtain⟨hb,hn,hl⟩:=bdsOk_of hg;refine kM Tryz.func135 ?_;intro B X w0;refine Zdi ?_;refine kw1 kP kc0 kc0 ?_;refine Zaq _ (Zc3 5 901 5 rfl rfl) ?_;refine Zae (λ(k:Nat)=>k<=l.length) (λ k=>[(1, .ref 1000 1 0 l.length l.length),(2, .ptr 2 0 0 0),(5, .ref 901 5 0 (rsL l f k).length (rsL l f k).length),(6, .int k)]) (λ k=>[(2, .cells [.int n, .d (Zbx l)]),(1000, .row 1 (f.map D.int)),(901, .row 5 ((rsL l f k).map rsD))]) (λ k=>l.length-k) 0 ?_ ?_ ?_
 ·exact uG _
 ·exact eL [] _ _ (by refine⟨?_,?_⟩<;>(repeat' first|exact fmn|refine fmc ⟨(by first|rfl|(simp(disch:=omega) only[go_sem,simprocAttr,inL,rsL,Za5,yE,uW];first|done|omega|(congr 1;done))),?_⟩);done)
 ·intro k hk;have hrl:=Zoi l f k;rcases uC k l.length with hlt|hge
  ·obtain⟨b,hbk⟩:=Zac hlt;have hbi:=hb k b hbk;have gf:=at0_at (r:=f) (i:=k) (by omega);have e1:=ZBQ (f:=f) hbk;generalize rsL l f k=R at*;have hl2:∀x:D,R.length+1<=(R.map rsD++[x]).length:=λ x=>by simp
   have hl3:∀x:D,(R.map rsD++[x]).take (R.length+1)=R.map rsD++[x]:=λ x=>uE (by simp)
   by_cases c:0<at0 f k
   ·rw[if_pos c]at e1;refine kw kP (kc7 hbk gf hfl c hl2 hl3 @Zan) kc0 ?_
    repeat' first|exact True.intro|refine Bn.mk ?_ ?_|intro hc
    refine⟨k+1,?_,eL [(901,47)] _ _ (by refine⟨?_,?_⟩<;>(repeat' first|exact fmn|refine fmc ⟨(by first|rfl|(simp(disch:=omega) only[go_sem,simprocAttr,inL,e1,uH,uX,uW,uR,uS,yE,qJ,gX,gL];first|done|omega|(congr 1;done))),?_⟩);done),?_⟩
    ·omega
    ·omega
   ·rw[if_neg c]at e1;refine kw1 kP (kc5 hbk gf hfl c @Zan) kc0 ?_;refine⟨k+1,?_,kN (kc7 e1 @uH.{0} @uX.{0} @uW.{0} @uR.{0,0} @uS.{0,0} @yE.{0,0}) [(901,30)],?_⟩
    ·omega
    ·omega
  ·have hk:k=l.length:=by omega
   subst hk;refine kw1 kP kc0 kc0 ?_;refine Za0 ?_;refine⟨_,ZbA.1 (kN (L:=[(4, .ref 2000 5 0 (rsL l f l.length).length (rsL l f l.length).length)]) (M:=[(1000, .row 1 (f.map D.int)),(2000, .row 5 ((rsL l f l.length).map rsD))]) kc0 [(2000,901)]),?_⟩;exact⟨rfl,fmc ⟨rfl,fmc ⟨rfl,fmn⟩⟩⟩
def ZfQ (L:List RS)(n:Nat):Bool:=(List.range (n+1)).any λ m=>decide ((cyR L n (m+1)).2.2<0)
def Za2 (L:List RS)(n:Nat):List Int:=(cyR L n (n+1)).2.1
def cyC (L:List RS)(n:Nat):Int:=Zaj (Zam L (Za2 L n)) (cyR L n (n+1)).2.2 n
def cyK (L:List RS)(n:Nat):Nat:=match Zb1 (λ q=>decide (Zaj (Zam L (Za2 L n)) (cyC L n) (q+1)=cyC L n)) n with
 |some q=>q+1
 |none=>0
def cyO (L:List RS)(n k:Nat):List Int:=(List.range k).map λ q=>at0 (Za2 L n) (Zaj (Zam L (Za2 L n)) (cyC L n) q)
theorem Zqg (L:List RS)(n k:Nat):cyO L n (k+1)=cyO L n k++[at0 (Za2 L n) (Zaj (Zam L (Za2 L n)) (cyC L n) k)]:=by
 rw[cyO,cyO,qP,uR];rfl
theorem Zqf (L:List RS)(n k:Nat):(cyO L n k).length=k:=by simp[cyO]
section search
variable {n:Nat}{l:List Bd}{f:List Int}
theorem ZwM (hb:BdsOk n l)(h:ZfQ (rsL l f l.length) n=true):∃d:List Int,∀s,s∈rsL l f l.length->at0 d s.2.2.1+s.2.2.2.2<=at0 d s.2.2.2.1:=by
 obtain⟨m,_,hm⟩:=gK.1 h;obtain⟨τ,hτ⟩:=CI.all (ZlI (f:=f) hb) m;exact⟨_,hτ.quiet (Aq hm)⟩
theorem ZmU (hb:BdsOk n l)(h:ZfQ (rsL l f l.length) n=false):(∀m,m<=n->¬(cyR (rsL l f l.length) n (m+1)).2.2<0)/\
  (∀q,q<=n->0<=Zaj (Zam (rsL l f l.length) (Za2 (rsL l f l.length) n)) (cyR (rsL l f l.length) n (n+1)).2.2 q/\Zaj (Zam (rsL l f l.length) (Za2 (rsL l f l.length) n)) (cyR (rsL l f l.length) n (n+1)).2.2 q<(n:Int)/\
   ∃(j:Nat) (s:RS),at0 (Za2 (rsL l f l.length) n) (Zaj (Zam (rsL l f l.length) (Za2 (rsL l f l.length) n)) (cyR (rsL l f l.length) n (n+1)).2.2 q)=j/\(rsL l f l.length)[j]? =some s/\Zaj (Zam (rsL l f l.length) (Za2 (rsL l f l.length) n)) (cyR (rsL l f l.length) n (n+1)).2.2 (q+1)=s.2.2.1)/\
  Clo n l f (rsL l f l.length) (Za2 (rsL l f l.length) n) (cyC (rsL l f l.length) n) (cyK (rsL l f l.length) n)/\(Za2 (rsL l f l.length) n).length=n:=by
 have hno:∀m,m<=n->¬(cyR (rsL l f l.length) n (m+1)).2.2<0:=λ m hm hlt=>by
  have:=qA.1 h m (yA.2 (by omega));exact this (yB hlt)
 obtain⟨τ,hτ⟩:=CI.all (ZlI (f:=f) hb) n;obtain⟨h1,K,hK⟩:=hτ.found hb (hno n (uI _));refine⟨hno,h1,?_,hτ.ll⟩;have e:cyK (rsL l f l.length) n=K:=by
  have:=ZqL (q:=λ q=>decide (Zaj (Zam (rsL l f l.length) (Za2 (rsL l f l.length) n)) (cyC (rsL l f l.length) n) (q+1)=cyC (rsL l f l.length) n)) (k:=K-1) (m:=n) (by have:=hK.pos;have:=hK.le;omega)
   (λ j hj=>uU (hK.new (j+1) (by omega) (by omega))) (yB (by rw[show K-1+1=K by have:=hK.pos;omega];exact hK.back))
  rw[cyK,this];have:=hK.pos;dsimp only;omega
 rw[e];exact hK
theorem CI.at {k:Nat}{L:List RS}(hg:Zih k L):∀(m i:Nat),i<=L.length->∃τ,CI L k m i (cyI L (cyR L k m) i) τ
 |0,i,hi=>CI.inner (τ:=λ _=>0) hg ⟨by simp[cyI,cyR],by simp[cyI,cyR],λ v=>uG _,λ v _ h=>absurd rfl h,λ u v h=>absurd rfl h,λ j s hs P hP=>by omega, .inl ⟨rfl,λ v=>uG _⟩,λ v hv=>by rw[cyI,cyR];dsimp only;rw[Zps];omega⟩ i hi
 |m+1,i,hi=>by
  obtain⟨τ,h⟩:=CI.all hg m;exact CI.inner hg h.turn i hi
end search
theorem Zqe {L:List RS}{σ:CS}{i:Nat}{s:RS}(h:L[i]? =some s):cyI L σ (i+1)=if at0 (cyI L σ i).1 s.2.2.2.1<at0 (cyI L σ i).1 s.2.2.1+s.2.2.2.2 then((cyI L σ i).1.set s.2.2.2.1.toNat (at0 (cyI L σ i).1 s.2.2.1+s.2.2.2.2),(cyI L σ i).2.1.set s.2.2.2.1.toNat (i:Int),s.2.2.2.1)else cyI L σ i:=by
 rw[cyI,cyS,h]
theorem ZwN {L:List RS}{n m i:Nat}(hg:Zih n L)(hL:L.length<=8192)(hn:n<=2048)(hm:m<=n)(hi:i<=L.length):(cyI L (cyR L n m) i).1.length=n/\(cyI L (cyR L n m) i).2.1.length=n/\∀v:Nat,v<n->-281851000000000<=at0 (cyI L (cyR L n m) i).1 v/\at0 (cyI L (cyR L n m) i).1 v<=281851000000000:=by
 obtain⟨τ,h⟩:=CI.at hg m i hi;refine⟨h.dl,h.ll,λ v hv=>?_⟩;have h1:=h.bd v hv;have h2:m*(L.length+1)<=2048*8193:=zE (by omega) (by omega);omega
theorem ZBa (n:Nat)(l:List Bd)(f:List Int)(hg:nOk ((n:Int),l)=true):
  Zah Tryz.prog 136 [.d (.sl ((rsL l f l.length).map rsD)), .int n] [(2000, .dead)] (if ZfQ (rsL l f l.length) n then .nilS else .ref 2000 1 0 (cyK (rsL l f l.length) n) (cyK (rsL l f l.length) n)) [(2000,if ZfQ (rsL l f l.length) n then .dead else .row 1 ((cyO (rsL l f l.length) n (cyK (rsL l f l.length) n)).map D.int))]:=by
 obtain⟨hb,hn,hl⟩:=bdsOk_of hg;have hgr:=ZlI (f:=f) hb;have hL:(rsL l f l.length).length<=8192:=by have:=Zoi l f l.length;omega
 have hbd:=λ m i hm hi=>ZwN (m:=m) (i:=i) hgr hL hn hm hi
 rcases hno:ZfQ (rsL l f l.length) n with _|_
 ·obtain⟨q1,q2,q3,q4⟩:=ZmU hb hno;obtain⟨p1,p2,p3,p4,p5,_,_⟩:=q3;rw[if_neg (by decide),if_neg (by decide)];clear hno;generalize rsL l f l.length=L at*;refine kM Tryz.func136 ?_;intro B X w0;refine Zdi ?_;refine kw1 kP kc0 kc0 ?_;refine Zae (λ(m:Nat)=>m<=n+1) (λ m=>[(0, .d (.sl (L.map rsD))),(1, .int n),(5, .ref 14 1 0 n n),(6, .ref 16 1 0 n n),(7, .int (cyR L n m).2.2),(8, .int m)]) (λ m=>[(14, .row 1 ((cyR L n m).1.map D.int)),(16, .row 1 ((cyR L n m).2.1.map D.int))]) (λ m=>n+1-m) 0 ?_ ?_ ?_
  ·exact uG _
  ·exact kN (kc2 @cyR.eq_1 @jJ.{0,0}) []
  ·intro m hm;rcases uC m (n+1)with hlt|hge
   ·refine kw1 kP kc0 kc0 ?_;refine Zae (λ(i:Nat)=>i<=L.length) (λ i=>[(0, .d (.sl (L.map rsD))),(1, .int n),(5, .ref 14 1 0 n n),(6, .ref 16 1 0 n n),(7, .int (cyI L (cyR L n m) i).2.2),(8, .int m),(9, .int i)]) (λ i=>[(14, .row 1 ((cyI L (cyR L n m) i).1.map D.int)),(16, .row 1 ((cyI L (cyR L n m) i).2.1.map D.int))]) (λ i=>L.length-i) 0 ?_ ?_ ?_
    ·exact uG _
    ·exact kN (kc1 @cyI.eq_1) []
    ·intro i hi;obtain⟨b1,b2,b3⟩:=hbd m i (by omega) hi;rcases uC i L.length with hil|hig
     ·obtain⟨s,hs⟩:=Zac hil;obtain⟨g1,g2,g3,g4,g5,g6,g7⟩:=hgr i s hs;have e1:=Zqe (σ:=cyR L n m) hs;generalize cyI L (cyR L n m) i=σ at*;obtain⟨d,la,at_⟩:=σ;obtain⟨sb,sk,u,w,ga⟩:=s;dsimp only at*;obtain⟨u,rfl⟩:∃x:Nat,u=x:=⟨u.toNat,by omega⟩;obtain⟨w,rfl⟩:∃x:Nat,w=x:=⟨w.toNat,by omega⟩;have du:=at0_at (r:=d) (i:=u) (by omega);have dw:=at0_at (r:=d) (i:=w) (by omega);have dl:=at0_at (r:=la) (i:=w) (by omega);have bu:=b3 u (by omega);have bw:=b3 w (by omega);rw[uK]at e1;by_cases c:at0 d w<at0 d u+ga
      ·rw[if_pos c]at e1;refine kw kP (kc7 hs du dw dl b1 b2 c) kc0 ?_
       repeat' first|exact True.intro|refine Bn.mk ?_ ?_|intro hc
       refine⟨i+1,?_,eL [] _ _ (by refine⟨?_,?_⟩<;>(repeat' first|exact fmn|refine fmc ⟨(by first|rfl|(simp(disch:=omega) only[go_sem,simprocAttr,inL,e1,yR];first|done|omega|(congr 1;done))),?_⟩);done),?_⟩
       ·omega
       ·omega
      ·rw[if_neg c]at e1;refine kw1 kP (kc7 hs du dw dl b1 b2 c) kc0 ?_;refine⟨i+1,?_,kN (kc1 e1) [],?_⟩
       ·omega
       ·omega
     ·have hie:i=L.length:=by omega
      subst hie;have eR:cyI L (cyR L n m) L.length=cyR L n (m+1):=rfl;have hq:=q1 m (by omega);rw[eR];refine kw1 kP (kc1 hq) kc0 ?_;refine⟨m+1,?_,kN kc0 [],?_⟩
      ·omega
      ·omega
   ·have hme:m=n+1:=by omega
    subst hme;rw[show(cyR L n (n+1)).2.1=Za2 L n from rfl];have eC:Zaj (Zam L (Za2 L n)) (cyR L n (n+1)).2.2 n=cyC L n:=rfl;refine kw1 kP kc0 kc0 ?_;refine Zae (λ(q:Nat)=>q<=n) (λ q=>[(0, .d (.sl (L.map rsD))),(1, .int n),(6, .ref 16 1 0 n n),(7, .int (Zaj (Zam L (Za2 L n)) (cyR L n (n+1)).2.2 q)),(10, .int q)]) (λ q=>[(16, .row 1 ((Za2 L n).map D.int))]) (λ q=>n-q) 0 ?_ ?_ ?_
    ·exact uG _
    ·exact kN (kc1 @Zaj.eq_1) []
    ·intro q hq;rcases uC q n with hql|hqg
     ·obtain⟨r1,r2,j,s,r3,r4,r5⟩:=q2 q hq;generalize Zaj (Zam L (Za2 L n)) (cyR L n (n+1)).2.2 q=v at*;obtain⟨v,rfl⟩:∃x:Nat,v=x:=⟨v.toNat,by omega⟩;have lv:=at0_at (r:=Za2 L n) (i:=v) (by omega);rw[r3]at lv;have hjl:=(uB.1 r4).1;refine kw kP (kc4 lv r4 q4 hjl) kc0 ?_
      repeat' first|exact True.intro|refine Bn.mk ?_ ?_|intro hc
      refine⟨q+1,?_,eL [] _ _ (by refine⟨?_,?_⟩<;>(repeat' first|exact fmn|refine fmc ⟨(by first|rfl|(simp(disch:=omega) only[go_sem,simprocAttr,inL,r5];first|done|omega|(congr 1;done))),?_⟩);done),?_⟩
      ·omega
      ·omega
     ·have hqe:q=n:=by omega
      subst hqe;rw[eC];obtain⟨r1,r2,j,s,r3,r4,r5,_⟩:=p5 0 (by omega);have e0:=Zqg L q 0;rw[Zaj]at r1 r2 r3 e0;rw[qM]at r5 e0;rw[r3,show cyO L q 0=[]from rfl,gL]at e0;obtain⟨c,hc⟩:∃x:Nat,cyC L q=x:=⟨(cyC L q).toNat,by omega⟩;have lv:=at0_at (r:=Za2 L q) (i:=c) (by omega);rw[<-hc,r3]at lv;have r5c:Zaj (Zam L (Za2 L q)) (c:Int) 1=s.2.2.1:=by rw[<-hc];exact r5
      have hjl:=(uB.1 r4).1;refine kw1 (kow (Nat.beq 104) (b:=false)) (kc4 hc lv r4 q4) kc0 ?_;refine Zae (λ(k:Nat)=>1<=k/\k<=cyK L q) (λ k=>[(0, .d (.sl (L.map rsD))),(6, .ref 16 1 0 q q),(7, .int (cyC L q)),(11, .ref 901 1 0 (cyO L q k).length (cyO L q k).length),(12, .int (Zaj (Zam L (Za2 L q)) (cyC L q) k))]) (λ k=>[(16, .row 1 ((Za2 L q).map D.int)),(901, .row 1 ((cyO L q k).map D.int))]) (λ k=>cyK L q-k) 1 ?_ ?_ ?_
      ·exact⟨uI _,p1⟩
      ·exact eL [(901,104)] _ _ (by refine⟨?_,?_⟩<;>(repeat' first|exact fmn|refine fmc ⟨(by first|rfl|(simp(disch:=omega) only[go_sem,simprocAttr,inL,hc,r5c,e0,yE,uS,uX,uW];first|done|omega|(congr 1;done))),?_⟩);done)
      ·rintro k ⟨hk1,hk2⟩;have hol:=Zqf L q k;rcases uC k (cyK L q)with hkl|hkg
       ·obtain⟨t1,t2,j',s',t3,t4,t5,_⟩:=p5 k hkl;have hne:=p4 k hk1 hkl;have e1:=Zqg L q k;rw[t3]at e1;have hjl':=(uB.1 t4).1;generalize Zaj (Zam L (Za2 L q)) (cyC L q) k=v at*;obtain⟨v,rfl⟩:∃x:Nat,v=x:=⟨v.toNat,by omega⟩;have lw:=at0_at (r:=Za2 L q) (i:=v) (by omega);rw[t3]at lw;have htk:((cyO L q k).map D.int).take k=(cyO L q k).map D.int:=uE (by simp[hol]);refine kw1 kP (kc7 hne lw t4 q4 hol htk @Zan) kc0 ?_;refine⟨k+1,?_,eL [(901,130)] _ _ (by refine⟨?_,?_⟩<;>(repeat' first|exact fmn|refine fmc ⟨(by first|rfl|(simp(disch:=omega) only[go_sem,simprocAttr,inL,e1,t5,uH,yL,uR,uS,yE,hol];first|done|omega|(congr 1;done))),?_⟩);done),?_⟩
        ·omega
        ·omega
       ·have hke:k=cyK L q:=by omega
        subst hke;rw[p3,hol];refine kw1 kP kc0 kc0 ?_;refine Za0 ?_;refine⟨_,ZbA.1 (kN (L:=[(4, .ref 2000 1 0 (cyK L q) (cyK L q))]) (M:=[(2000, .row 1 ((cyO L q (cyK L q)).map D.int))]) (kc1 hol) [(2000,901)]),?_⟩;exact⟨rfl,fmc ⟨rfl,fmn⟩⟩
 ·rw[if_pos rfl,if_pos rfl];obtain⟨m0,hm0,hneg⟩:=gK.1 hno;obtain⟨M,⟨hM1,hM2⟩,_,hM3⟩:=Zru (P:=λ m=>m<=n/\(cyR (rsL l f l.length) n (m+1)).2.2<0) m0 ⟨by have:=yA.1 hm0;omega,Aq hneg⟩;clear hno hneg hm0;generalize rsL l f l.length=L at*;refine kM Tryz.func136 ?_;intro B X w0;refine Zdi ?_;refine kw1 kP kc0 kc0 ?_;refine Zae (λ(m:Nat)=>m<=M) (λ m=>[(0, .d (.sl (L.map rsD))),(1, .int n),(5, .ref 14 1 0 n n),(6, .ref 16 1 0 n n),(7, .int (cyR L n m).2.2),(8, .int m)]) (λ m=>[(14, .row 1 ((cyR L n m).1.map D.int)),(16, .row 1 ((cyR L n m).2.1.map D.int))]) (λ m=>M-m) 0 ?_ ?_ ?_
  ·exact uG _
  ·exact kN (kc2 @cyR.eq_1 @jJ.{0,0}) []
  ·intro m hm;refine kw1 kP kc0 kc0 ?_;refine Zae (λ(i:Nat)=>i<=L.length) (λ i=>[(0, .d (.sl (L.map rsD))),(1, .int n),(5, .ref 14 1 0 n n),(6, .ref 16 1 0 n n),(7, .int (cyI L (cyR L n m) i).2.2),(8, .int m),(9, .int i)]) (λ i=>[(14, .row 1 ((cyI L (cyR L n m) i).1.map D.int)),(16, .row 1 ((cyI L (cyR L n m) i).2.1.map D.int))]) (λ i=>L.length-i) 0 ?_ ?_ ?_
   ·exact uG _
   ·exact kN (kc1 @cyI.eq_1) []
   ·intro i hi;obtain⟨b1,b2,b3⟩:=hbd m i (by omega) hi;rcases uC i L.length with hil|hig
    ·obtain⟨s,hs⟩:=Zac hil;obtain⟨g1,g2,g3,g4,g5,g6,g7⟩:=hgr i s hs;have e1:=Zqe (σ:=cyR L n m) hs;generalize cyI L (cyR L n m) i=σ at*;obtain⟨d,la,at_⟩:=σ;obtain⟨sb,sk,u,w,ga⟩:=s;dsimp only at*;obtain⟨u,rfl⟩:∃x:Nat,u=x:=⟨u.toNat,by omega⟩;obtain⟨w,rfl⟩:∃x:Nat,w=x:=⟨w.toNat,by omega⟩;have du:=at0_at (r:=d) (i:=u) (by omega);have dw:=at0_at (r:=d) (i:=w) (by omega);have dl:=at0_at (r:=la) (i:=w) (by omega);have bu:=b3 u (by omega);have bw:=b3 w (by omega);rw[uK]at e1;by_cases c:at0 d w<at0 d u+ga
     ·rw[if_pos c]at e1;refine kw kP (kc7 hs du dw dl b1 b2 c) kc0 ?_
      repeat' first|exact True.intro|refine Bn.mk ?_ ?_|intro hc
      refine⟨i+1,?_,eL [] _ _ (by refine⟨?_,?_⟩<;>(repeat' first|exact fmn|refine fmc ⟨(by first|rfl|(simp(disch:=omega) only[go_sem,simprocAttr,inL,e1,yR];first|done|omega|(congr 1;done))),?_⟩);done),?_⟩
      ·omega
      ·omega
     ·rw[if_neg c]at e1;refine kw1 kP (kc7 hs du dw dl b1 b2 c) kc0 ?_;refine⟨i+1,?_,kN (kc1 e1) [],?_⟩
      ·omega
      ·omega
    ·have hie:i=L.length:=by omega
     subst hie;have eR:cyI L (cyR L n m) L.length=cyR L n (m+1):=rfl;rw[eR];by_cases hq:(cyR L n (m+1)).2.2<0
     ·refine kw1 kP (kc1 hq) kc0 ?_;refine Za0 ?_;refine⟨_,ZbA.1 (kN (L:=[(4, .nilS)]) (M:=[(2000, .dead)]) kc0 []),?_⟩;exact⟨rfl,fmc ⟨rfl,fmn⟩⟩
     ·have hml:m<M:=by
       rcases uC m M with h|h
       ·exact h
       ·have:m=M:=by omega
        subst this;exact absurd hM2 hq
      refine kw1 kP (kc1 hq) kc0 ?_;refine⟨m+1,?_,kN kc0 [],?_⟩
      ·omega
      ·omega
end Go.Proofs.YtjjbhjnpeenbkaaGreatDoor.Sx
