/- The steps that lead away from each vertex. -/
import Derived.Test.YtjjbhjnpeenbkaaGreatDoorBaF
set_option linter.unusedSimpArgs false
set_option linter.unusedVariables false
set_option maxHeartbeats 16000000
namespace Go.Proofs.YtjjbhjnpeenbkaaGreatDoor.Sx
open Go Go.PS Go.Proofs
set_option maxRecDepth 100000
attribute [local irreducible] Zac wpG Zaa Zag
abbrev Stp :=Int×Int×Int×Bool
abbrev stD (s:Stp):D:= .ag [.int s.1, .int s.2.1, .int s.2.2.1, .bool s.2.2.2]
def Zg5 (l:List Bd)(f:List Int)(v k:Nat):List Stp:=match l[k]? with
 |some b=>(if b.1=v then[(b.2.1,b.2.2.1,(k:Int),false)]else[])++(if 0<at0 f k/\b.2.1=v then[(b.1,-b.2.2.1,(k:Int),true)]else[])
 |none=>[]
def Zet (l:List Bd)(f:List Int)(v:Nat):Nat->List Stp:=Za1 (Zg5 l f v)
def Zdi (l:List Bd)(f:List Int)(k v:Nat):List D:=(Zet l f v k).map stD
abbrev Zih (n:Nat)(l:List Bd)(f:List Int):List D:=(List.range n).map λ v=> .sl (Zdi l f l.length v)
theorem Zuc {l:List Bd}{f:List Int}{k:Nat}{b:Bd}{p q:Nat}(hb:l[k]? =some b)(hp:b.1=p)(hq:b.2.1=q)(hpq:p≠q)(v:Nat):
  Zdi l f (k+1) v=if v=p then Zdi l f k v++[stD (q,b.2.2.1,k,false)]else if v=q/\0<at0 f k then Zdi l f k v++[stD (p,-b.2.2.1,k,true)]else Zdi l f k v:=by
 simp only[Zdi,Zet,Za1,Zg5,hb,hp,hq,uU];by_cases h1:v=p
 ·subst h1;rw[if_pos rfl,if_neg (by omega),if_pos rfl];simp
 ·rw[if_neg (by omega),if_neg h1];by_cases h2:v=q/\0<at0 f k
  ·rw[if_pos ⟨h2.2,by omega⟩,if_pos h2];simp
  ·rw[if_neg (by omega),if_neg h2];simp
theorem ZkM (l:List Bd)(f:List Int)(v:Nat):∀k,(Zdi l f k v).length<=2*k
 |0=>by simp[Zdi,Zet,Za1]
 |k+1=>by
  have:=ZkM l f v k;simp only[Zdi,Zet,Za1,uU,uC,uD]at this|-;have:(Zg5 l f v k).length<=2:=by
   rw[Zg5];split
   ·split<;>split<;>simp
   ·simp
  omega
theorem ZCq (n:Nat)(l:List Bd)(f:List Int)(hn:n<=2048)(hl:l.length<=4096)(hfl:f.length=l.length)
  (hb:∀(k:Nat) b,l[k]? =some b->0<=b.1/\b.1<n/\0<=b.2.1/\b.2.1<n/\b.1≠b.2.1/\-16777216<=b.2.2.1/\b.2.2.1<=16777216):
  Zaa Tryz.prog 211 [pD n l f] (.sl (Zih n l f)):=by
 refine kE Tryz.func211 ?_;intro hat B X w0;refine kw1 (kow (λ s=>(Nat.beq 11 s).or ((Nat.beq 37 s).or (Nat.beq 63 s))) (b:=true)) kc0 kc0 ?_;refine Zas _ (ZjS 1 11 4 n rfl (λ i hi=>by simp(disch:=omega) only[go_sem,simprocAttr,ZjM,Zeg]) (by decide) (by decide)) ?_;refine Zez (λ(k:Nat)=>k<=l.length) (λ k=>[(0, .d (pD n l f)),(3, .ref 11 1 0 n n),(16, .d (ZbN l)),(17, .int l.length),(18, .int k)]) (λ k=>[⟨1,11,4,n,Zdi l f k⟩]) (λ k=>[]) (λ k=>l.length-k) 0 ?_ ?_ ?_
 ·exact uI _
 ·refine kF kc0 [] [] ?_
  repeat' first|exact fmn|refine fmc ⟨?_,?_⟩
  all_goals refine⟨_,(by first|rfl|(simp(disch:=omega) only[go_sem,simprocAttr,Zdi,Zet,Za1];done)|(simp(disch:=omega) only[go_sem,simprocAttr,Zdi,Zet,Za1];rfl)),λ i hi=>?_⟩
  all_goals dsimp only at hi|-
  all_goals try (exfalso;omega)
  all_goals try (simp(disch:=omega) only[go_sem,simprocAttr,Zdi,Zet,Za1,ZdI,ZdO];done)
 ·intro k hk;rcases uF k l.length with hlt|hge
  ·obtain⟨b,hbk⟩:=Zad hlt;have hbi:=hb k b hbk;obtain⟨p,hp⟩:∃p:Nat,b.1=p:=⟨b.1.toNat,by omega⟩;obtain⟨q,hq⟩:∃q:Nat,b.2.1=q:=⟨b.2.1.toNat,by omega⟩;have hpq:p≠q:=by omega
   have hqp:q≠p:=by omega
   have hpn:p<n:=by omega
   have hqn:q<n:=by omega
   have gf:=ZaK (r:=f) (i:=k) (by omega);have hsu:=Zuc (f:=f) hbk hp hq hpq;have e1:=ZkM l f p k;have e2:=ZkM l f q k;refine Zas _ (Zfz _ _ [11] 11 p 900 1 4 n (by first|rfl|(simp(disch:=omega) only[go_sem,simprocAttr];done)|(simp(disch:=omega) only[go_sem,simprocAttr];rfl)) (by first|(simp(disch:=omega) only[go_sem,simprocAttr];done)|(simp(disch:=omega) only[go_sem,simprocAttr];rfl)) (by first|(simp(disch:=omega) only[go_sem,simprocAttr];done)|(simp(disch:=omega) only[go_sem,simprocAttr];rfl)) (λ i hi hne=>by simp(disch:=omega) only[go_sem,simprocAttr,hne];(repeat' split)<;>exact .ref _ _ _ _ _ ⟨by simp(disch:=omega) only[go_sem,simprocAttr,hne],by simp(disch:=omega) only[go_sem,simprocAttr,hne]⟩) (by(repeat' first|refine Zfn ?_|exact Ze4 (ids:=[11]) rfl rfl (uW rfl)|refine Zfr ?_|refine Zft ?_|refine Ze8 ?_|refine Zfa ?_|refine Zfe ?_|refine Ze6 (by dsimp only;omega) (by dsimp only;omega) (by omega) (by omega) (uW rfl) ?_);done) rfl rfl rfl) ?_;refine Zas _ (Zfz _ _ [11,900] 11 q 901 1 4 n (by first|rfl|(simp(disch:=omega) only[go_sem,simprocAttr,hpq,hqp];done)|(simp(disch:=omega) only[go_sem,simprocAttr,hpq,hqp];rfl)) (by first|(simp(disch:=omega) only[go_sem,simprocAttr,hpq,hqp];done)|(simp(disch:=omega) only[go_sem,simprocAttr,hpq,hqp];rfl)) (by first|(simp(disch:=omega) only[go_sem,simprocAttr,hpq,hqp];done)|(simp(disch:=omega) only[go_sem,simprocAttr,hpq,hqp];rfl)) (λ i hi hne=>by simp(disch:=omega) only[go_sem,simprocAttr,hne,hpq,hqp];(repeat' split)<;>exact .ref _ _ _ _ _ ⟨by simp(disch:=omega) only[go_sem,simprocAttr,hne,hpq,hqp],by simp(disch:=omega) only[go_sem,simprocAttr,hne,hpq,hqp]⟩) (by(repeat' first|refine Zfn ?_|exact Ze4 (ids:=[11,900]) rfl rfl (uW rfl)|refine Zfr ?_|refine Zft ?_|refine Ze8 ?_|refine Zfa ?_|refine Zfe ?_|refine Ze6 (by dsimp only;omega) (by dsimp only;omega) (by omega) (by omega) (uW rfl) ?_);done) rfl rfl rfl) ?_;refine kw (kow (λ s=>(Nat.beq 11 s).or ((Nat.beq 37 s).or (Nat.beq 63 s))) (b:=true)) (kc6 hbk hp hq gf hpq hqp) kc0 ?_
   repeat' first|exact True.intro|refine Bn.mk ?_ ?_|intro hc
   ·refine⟨k+1,?_,kF kc0 [(fid 1 p,38),(fid 1 q,64)] [] ?_,?_⟩
    ·omega
    ·repeat' first|exact fmn|refine fmc ⟨?_,?_⟩
     all_goals refine⟨_,(by first|rfl|(simp(disch:=omega) only[go_sem,simprocAttr,hsu,hpq,hqp,yF,uC,uX,uZ,hc];done)|(simp(disch:=omega) only[go_sem,simprocAttr,hsu,hpq,hqp,yF,uC,uX,uZ,hc];rfl)),λ i hi=>?_⟩
     all_goals dsimp only at hi|-
     all_goals rcases gT (i=p)with rfl|hi0
     all_goals rcases gT (i=q)with rfl|hi1
     all_goals try (exfalso;omega)
     all_goals try (simp(disch:=omega) only[go_sem,simprocAttr,hsu,hpq,hqp,yF,uC,uX,uZ,hc,ZdI,ZdO];done)
     all_goals try (simp(disch:=omega) only[go_sem,simprocAttr,hsu,hpq,hqp,yF,uC,uX,uZ,hc,hi0,ZdI,ZdO];done)
     all_goals try (simp(disch:=omega) only[go_sem,simprocAttr,hsu,hpq,hqp,yF,uC,uX,uZ,hc,hi1,ZdI,ZdO];done)
     all_goals try (simp(disch:=omega) only[go_sem,simprocAttr,hsu,hpq,hqp,yF,uC,uX,uZ,hc,hi0,hi1,ZdI,ZdO];done)
    ·omega
   ·refine⟨k+1,?_,eF [(fid 1 p,38),(fid 1 q,901)] [] _ _ _ (by refine⟨?_,?_⟩<;>(repeat' first|exact fmn|refine fmc ⟨(by first|rfl|(simp(disch:=omega) only[go_sem,simprocAttr,inL];first|done|omega|(congr 1;done))),?_⟩);done) ?_,?_⟩
    ·omega
    ·exact kT2 (kc8 hsu hpq hqp @yF.{0} @uC.{0} @uX.{0} @uZ.{0} hc) p q
    ·omega
  ·refine kw1 kP kc0 kc0 ?_;have:k=l.length:=by omega
   subst this;refine Zas _ (ZyJ.1 (kG kc0 [] [] [(2, .ref 11 1 0 n n)] [⟨1,11,4,n,Zdi l f l.length⟩] [] ?_)) ?_
   ·exact kT0 kc0
   ·refine Zas _ (Zi7 _ _ _ _ ⟨ZbM rfl,ZbM rfl,(by(repeat' first|exact fmn|refine fmc ⟨⟨uW rfl,uW rfl,by dsimp only;omega⟩,?_⟩);done)⟩ rfl [11] rfl rfl rfl rfl) ?_;refine kw1 kO kc0 kc0 ?_;exact ZcK (o:=11) rfl rfl (by simp) (uG (by simp))
end Go.Proofs.YtjjbhjnpeenbkaaGreatDoor.Sx
namespace Go.Proofs.YtjjbhjnpeenbkaaGreatDoor.Sx
open Go Go.PS Go.Proofs
abbrev Way :=Int×Int×Stp×Bool
abbrev Zla (w:Way):D:= .ag [.int w.1, .int w.2.1, .int w.2.2.1.1, .int w.2.2.1.2.1, .int w.2.2.1.2.2.1, .bool w.2.2.1.2.2.2, .bool w.2.2.2]
def Zh1 :Way:=(0,0,(0,0,0,false),false)
def ZdM :Way:=(-1152921504606846976,0,(0,0,0,false),false)
def Zc5 :Way:=(0,0,(0,0,0,false),true)
abbrev LS :=List Way×List Bool×List Int
def wAt (W:List Way)(v:Int):Way:=(W[v.toNat]?).getD ZdM
def bAt (B:List Bool)(v:Int):Bool:=(B[v.toNat]?).getD true
def Za6 (v:Int)(σ:LS)(s:Stp):LS:=
 if(wAt σ.1 s.1).1<(wAt σ.1 v).1+s.2.1 then
  (σ.1.set s.1.toNat ((wAt σ.1 v).1+s.2.1,v,s,false),if bAt σ.2.1 s.1 then σ.2 else(σ.2.1.set s.1.toNat true,σ.2.2++[s.1]))
 else σ
def Za4 (L:List Stp)(v:Int)(σ:LS)(i:Nat):LS:=(L.take i).foldl (Za6 v) (σ.1,σ.2.1.set v.toNat false,σ.2.2)
def Zux (ST:Nat->List Stp)(σ:LS)(v:Int):LS:=Za4 (ST v.toNat) v σ (ST v.toNat).length
def Zbq (ST:Nat->List Stp)(σ:LS)(j:Nat):LS:=(σ.2.2.take j).foldl (Zux ST) (σ.1,σ.2.1,[])
def Zay (ST:Nat->List Stp)(σ:LS):Nat->LS
 |0=>σ
 |k+1=>Zbq ST (Zay ST σ k) (Zay ST σ k).2.2.length
theorem Zog {α β:Type}{f:β->α->β}{l:List α}{k:Nat}{x:α}(a:β)(h:l[k]? =some x):(l.take (k+1)).foldl f a=f ((l.take k).foldl f a) x:=by
 rw[ZaB h,List.foldl_append];rfl
theorem ZjA {L:List Stp}{v:Int}{σ:LS}{i:Nat}{s:Stp}(h:L[i]? =some s):Za4 L v σ (i+1)=Za6 v (Za4 L v σ i) s:=Zog _ h
theorem ZjB {ST:Nat->List Stp}{σ:LS}{j:Nat}{v:Int}(h:σ.2.2[j]? =some v):Zbq ST σ (j+1)=Za4 (ST v.toNat) v (Zbq ST σ j) (ST v.toNat).length:=Zog _ h
def Zeo (n:Nat)(U:Int)(c:Nat)(σ:LS):Prop:=
 σ.1.length=n/\σ.2.1.length=n/\(∀x∈σ.2.2,0<=x/\x<(n:Int))/\(∀w∈σ.1,-1152921504606846976<=w.1/\w.1<=U)/\σ.2.2.length<=σ.2.1.count true+c
def Zhn (n:Nat)(v:Int)(L:List Stp):Prop:=∀s∈L,0<=s.1/\s.1<(n:Int)/\s.1≠v/\-16777216<=s.2.1/\s.2.1<=16777216
theorem Zyl (l:List Bool):∀v,l.count true<=(l.set v false).count true+1:=by
 induction l with
 |nil=>intro v;simp
 |cons b l ih=>
  intro v;cases v with
  |zero=>cases b<;>simp
  |succ v=>have:=ih v;cases b<;>simp<;>omega
theorem ZAv (l:List Bool):∀v,l[v]? =some false->(l.set v true).count true=l.count true+1:=by
 induction l with
 |nil=>intro v h;simp at h
 |cons b l ih=>
  intro v h;cases v with
  |zero=>simp at h;subst h;simp
  |succ v=>have:=ih v (by simpa using h);cases b<;>simp<;>omega
theorem ZdS {W:List Way}{v:Int}{n:Nat}(hW:W.length=n)(h1:0<=v)(h2:v<(n:Int)):W[v.toNat]? =some (wAt W v):=by
 obtain⟨x,hx⟩:=Zad (show v.toNat<W.length by omega);rw[wAt,hx];rfl
theorem ZlS {W:List Bool}{v:Int}{n:Nat}(hW:W.length=n)(h1:0<=v)(h2:v<(n:Int)):W[v.toNat]? =some (bAt W v):=by
 obtain⟨x,hx⟩:=Zad (show v.toNat<W.length by omega);rw[bAt,hx];rfl
theorem Zgz {W:List Way}{u v:Int}{x:Way}(h1:0<=u)(h2:0<=v)(h3:v.toNat<W.length):wAt (W.set v.toNat x) u=if u=v then x else wAt W u:=by
 rw[wAt,qD];by_cases h:u=v
 ·subst h;rw[if_pos rfl,if_pos h3,if_pos rfl];rfl
 ·rw[if_neg (by omega),if_neg h];rfl
theorem ZxL {n c:Nat}{U v:Int}{σ:LS}{s:Stp}(h:Zeo n (U+16777216) c σ)(hv:(wAt σ.1 v).1<=U)(h0:0<=v)(hs:0<=s.1/\s.1<(n:Int)/\s.1≠v/\-16777216<=s.2.1/\s.2.1<=16777216):
  Zeo n (U+16777216) c (Za6 v σ s)/\(wAt (Za6 v σ s).1 v).1<=U:=by
 obtain⟨g1,g2,g3,g4,g5⟩:=h;obtain⟨s1,s2,s3,s4,s5⟩:=hs;rw[Za6];split
 ·rename_i hlt;have hold:=g4 _ (uA (ZdS g1 s1 s2));refine⟨⟨by simp[g1],?_,?_,?_,?_⟩,?_⟩
  ·split
   ·exact g2
   ·simp[g2]
  ·split
   ·exact g3
   ·intro x hx;rcases yH.1 hx with hx|hx
    ·exact g3 x hx
    ·rw[uR.1 hx];exact⟨s1,s2⟩
  ·intro w hw;rcases kT hw with hw|rfl
   ·exact g4 w hw
   ·dsimp only;omega
  ·split
   ·exact g5
   ·rename_i hb;have hb:bAt σ.2.1 s.1=false:=by simpa using hb
    have:=ZAv σ.2.1 s.1.toNat (by rw[ZlS g2 s1 s2,hb]);dsimp only;rw[uC,this,yT];omega
  ·dsimp only;rw[Zgz h0 s1 (by omega),if_neg (by omega)];exact hv
 ·exact⟨⟨g1,g2,g3,g4,g5⟩,hv⟩
theorem ZAe {n c c':Nat}{U U':Int}{σ:LS}(h:Zeo n U c σ)(hU:U<=U')(hc:c<=c'):Zeo n U' c' σ:=by
 obtain⟨g1,g2,g3,g4,g5⟩:=h;exact⟨g1,g2,g3,λ w hw=>by have:=g4 w hw;omega,by omega⟩
theorem Zo1 {n c:Nat}{U v:Int}{σ:LS}{L:List Stp}(h:Zeo n U c σ)(h0:0<=v)(hvn:v<(n:Int))(hL:Zhn n v L):
  ∀i,Zeo n (U+16777216) (c+1) (Za4 L v σ i)/\(wAt (Za4 L v σ i).1 v).1<=U:=by
 intro i
 induction i with
 |zero=>
  obtain⟨g1,g2,g3,g4,g5⟩:=h;have:=Zyl σ.2.1 v.toNat;exact⟨⟨g1,by simp[Za4,g2],g3,λ w hw=>by have:=g4 w hw;omega,by simp only[Za4,qC,Cg];omega⟩,(g4 _ (uA (ZdS g1 h0 hvn))).2⟩
 |succ i ih=>
  rcases uF i L.length with hi|hi
  ·obtain⟨s,hs⟩:=Zad hi;rw[ZjA hs];exact ZxL ih.1 ih.2 h0 (hL s (uA hs))
  ·have:Za4 L v σ (i+1)=Za4 L v σ i:=by rw[Za4,Za4,uG (by omega),uG hi]
   rw[this];exact ih
theorem Znr {n c:Nat}{U:Int}{σ:LS}{ST:Nat->List Stp}(h:Zeo n U c σ)(hST:∀v:Nat,v<n->Zhn n v (ST v)):
  ∀j,j<=σ.2.2.length->Zeo n (U+16777216*j) j (Zbq ST σ j):=by
 intro j
 induction j with
 |zero=>intro _;obtain⟨g1,g2,g3,g4,g5⟩:=h;exact⟨g1,g2,by simp[Zbq],λ w hw=>by have:=g4 w hw;omega,by simp[Zbq]⟩
 |succ j ih=>
  intro hj;obtain⟨v,hv⟩:=Zad (show j<σ.2.2.length by omega);have hvb:=h.2.2.1 v (uA hv);rw[ZjB hv];refine ZAe (Zo1 (ih (by omega)) hvb.1 hvb.2 (?_) _).1 (by omega) (uH _);have:=hST v.toNat (by omega)
  rwa [show((v.toNat:Nat):Int)=v by omega]at this
theorem ZoM {n:Nat}{σ:LS}{ST:Nat->List Stp}(hn:n<=2048)(h:Zeo n 0 σ.2.2.length σ)(hq:σ.2.2.length<=n)(hST:∀v:Nat,v<n->Zhn n v (ST v)):
  ∀k,k<=n+1->Zeo n (70437463654400*k) (Zay ST σ k).2.2.length (Zay ST σ k)/\(Zay ST σ k).2.2.length<=n*(k+1):=by
 intro k
 induction k with
 |zero=>intro _;exact⟨by simpa[Zay]using h,by simpa[Zay]using hq⟩
 |succ k ih=>
  intro hk;obtain⟨h1,h2⟩:=ih (by omega);have h3:=Znr h1 hST (Zay ST σ k).2.2.length (uH _);have hqk:(Zay ST σ k).2.2.length<=4198400:=by
   have:n*(k+1)<=2048*2050:=zM hn (by omega);omega
  obtain⟨g1,g2,g3,g4,g5⟩:=h3;have hc:((Zbq ST (Zay ST σ k) (Zay ST σ k).2.2.length).2.1).count true<=n:=by rw[<-g2];exact List.count_le_length
  refine⟨⟨g1,g2,g3,λ w hw=>?_,by simp only[Zay];omega⟩,?_⟩
  ·have:=g4 w hw;omega
  ·simp only[Zay];have:n*(k+1+1)=n*(k+1)+n:=by rw[Nat.mul_succ]
   omega
def ZdJ (n:Nat)(st:List Int)(j:Nat):List Way:=(st.take j).foldl (λ W v=>W.set v.toNat Zc5) (List.replicate n ZdM)
theorem ZqR {n:Nat}{st:List Int}{j:Nat}{v:Int}(h:st[j]? =some v):ZdJ n st (j+1)=(ZdJ n st j).set v.toNat Zc5:=Zog _ h
theorem Zh6 (n:Nat)(st:List Int):∀j,(ZdJ n st j).length=n:=by
 intro j;rw[ZdJ];generalize st.take j=l;have:∀(l:List Int) (W:List Way),(l.foldl (λ W v=>W.set v.toNat Zc5) W).length=W.length:=by
  intro l
  induction l with
  |nil=>intro W;rfl
  |cons v l ih=>intro W;rw[jG,ih];simp
 rw[this];simp
theorem Zuz (n:Nat)(st:List Int)(j:Nat):∀w∈ZdJ n st j,w=ZdM\/w=Zc5:=by
 rw[ZdJ];generalize st.take j=l;have:∀(l:List Int) (W:List Way),(∀w∈W,w=ZdM\/w=Zc5)->∀w∈l.foldl (λ W v=>W.set v.toNat Zc5) W,w=ZdM\/w=Zc5:=by
  intro l
  induction l with
  |nil=>intro W h;exact h
  |cons v l ih=>
   intro W h;rw[jG];refine ih _ λ w hw=>?_
   rcases kT hw with hw|rfl
   ·exact h w hw
   ·exact .inr rfl
 exact this l _ λ w hw=> .inl (zV hw)
def Zau (n:Nat)(st:List Int):LS:=(ZdJ n st st.length,List.replicate n false,st)
theorem Zqq {n:Nat}{st:List Int}(hst:∀x∈st,0<=x/\x<(n:Int)):Zeo n 0 (Zau n st).2.2.length (Zau n st):=by
 refine⟨Zh6 _ _ _,by simp[Zau],hst,λ w hw=>?_,by omega⟩;rcases Zuz _ _ _ w hw with rfl|rfl<;>simp[ZdM,Zc5]
def ZhM (n:Nat)(ST:Nat->List Stp)(st:List Int):Option Nat:=ZbR (λ k=>(Zay ST (Zau n st) k).2.2.isEmpty) (n+2)
def Zb0 (n:Nat)(ST:Nat->List Stp)(st:List Int):Option (List Way):=(ZhM n ST st).map λ k=>(Zay ST (Zau n st) k).1
set_option maxRecDepth 100000
attribute [local irreducible] Zac wpG Zaa Zag
theorem Zzv {v:Int}{σ:LS}{s:Stp}(h:¬(wAt σ.1 s.1).1<(wAt σ.1 v).1+s.2.1):Za6 v σ s=σ:=by rw[Za6,if_neg h]
theorem ZyH {v:Int}{σ:LS}{s:Stp}(h:(wAt σ.1 s.1).1<(wAt σ.1 v).1+s.2.1)(hb:bAt σ.2.1 s.1=true):
  Za6 v σ s=(σ.1.set s.1.toNat ((wAt σ.1 v).1+s.2.1,v,s,false),σ.2.1,σ.2.2):=by rw[Za6,if_pos h,if_pos hb]
theorem Zuw {v:Int}{σ:LS}{s:Stp}(h:(wAt σ.1 s.1).1<(wAt σ.1 v).1+s.2.1)(hb:bAt σ.2.1 s.1=false):
  Za6 v σ s=(σ.1.set s.1.toNat ((wAt σ.1 v).1+s.2.1,v,s,false),σ.2.1.set s.1.toNat true,σ.2.2++[s.1]):=by
 rw[Za6,if_pos h,if_neg (by rw[hb];exact Ag)]
abbrev ZdD (W:List Way):List D:=W.map Zla
abbrev Zn4 (B:List Bool):List D:=B.map D.bool
abbrev intsL (l:List Int):List D:=l.map D.int
def Zex (n k:Nat):List Way:=(List.range n).map λ u=>if u<k then ZdM else Zh1
theorem Zjn (n k:Nat):(Zex n k).length=n:=by simp[Zex]
theorem ZkX {n k u:Nat}(h:u<n):(Zex n k)[u]? =some (if u<k then ZdM else Zh1):=by simp[Zex,h]
theorem Zt1 (n:Nat):ZdD (Zex n 0)=List.replicate n (Zla Zh1):=by
 rw[kV];refine⟨by simp[Zex],λ b hb=>?_⟩;simp only[Zex,gL,uN,ZdD]at hb;obtain⟨u,_,rfl⟩:=hb;simp
theorem Zuf {n k:Nat}(h:k<n):(Zex n k).set k ZdM=Zex n (k+1):=by
 refine qI λ u=>?_
 by_cases hu:u<n
 ·rw[ZkX hu,qD,ZkX hu,Zjn];by_cases c:k=u
  ·subst c;rw[if_pos rfl,if_pos h,if_pos (by omega)]
  ·rw[if_neg c];by_cases c2:u<k
   ·rw[if_pos c2,if_pos (by omega)]
   ·rw[if_neg c2,if_neg (by omega)]
 ·rw[uP (by rw[yI,Zjn];omega),uP (by rw[Zjn];omega)]
theorem ZvS (n:Nat)(st:List Int):Zex n n=ZdJ n st 0:=by
 refine qI λ u=>?_
 by_cases hu:u<n
 ·rw[ZkX hu,if_pos hu];simp[ZdJ,hu]
 ·rw[uP (by rw[Zjn];omega),uP (by rw[Zh6];omega)]
def Zaw (l:List Bd)(f:List Int)(v:Nat):List Stp:=Zet l f v l.length
theorem Zut {n:Nat}{l:List Bd}{f:List Int}
  (hb:∀(k:Nat) b,l[k]? =some b->0<=b.1/\b.1<n/\0<=b.2.1/\b.2.1<n/\b.1≠b.2.1/\-16777216<=b.2.2.1/\b.2.2.1<=16777216)(v:Nat):Zhn n v (Zaw l f v):=by
 have key:∀k,Zhn n v (Zet l f v k):=by
  intro k
  induction k with
  |zero=>intro s hs;simp[Zet,Za1]at hs
  |succ k ih=>
   intro s hs;simp only[Zet,Za1]at hs;rcases yH.1 hs with hs|hs
   ·exact ih s hs
   ·rw[Zg5]at hs;split at hs
    ·rename_i b hbk;have:=hb k b hbk;rcases yH.1 hs with hs|hs
     ·split at hs
      ·rw[uR.1 hs];dsimp only;omega
      ·simp at hs
     ·split at hs
      ·rw[uR.1 hs];dsimp only;omega
      ·simp at hs
    ·simp at hs
 exact key _
theorem ZA8 (ST:Nat->List Stp)(σ:LS):Zbq ST σ 0=(σ.1,σ.2.1,[]):=rfl
theorem Zw2 (L:List Stp)(v:Int)(σ:LS):Za4 L v σ 0=(σ.1,σ.2.1.set v.toNat false,σ.2.2):=rfl
theorem Zj7 (n:Nat)(l:List Bd)(f:List Int)(st:List Int)(hn:n<=2048)(hl:l.length<=4096)(hfl:f.length=l.length)
  (hb:∀(k:Nat) b,l[k]? =some b->0<=b.1/\b.1<n/\0<=b.2.1/\b.2.1<n/\b.1≠b.2.1/\-16777216<=b.2.2.1/\b.2.2.1<=16777216)
  (hst:∀x∈st,0<=x/\x<(n:Int))(hsn:st.length<=n):
  (∀W,Zb0 n (Zaw l f) st=some W->Zag Tryz.prog 160 [.d (pD n l f), .d (Zab st)] [(2000, .dead)] (.tup [.ref 2000 7 0 n n, .bool true]) [(2000, .row 7 (ZdD W))])/\
  (Zb0 n (Zaw l f) st=none->Zag Tryz.prog 160 [.d (pD n l f), .d (Zab st)] [(2000, .dead)] (.tup [.nilS, .bool false]) [(2000, .dead)]):=by
 have hsteps:=ZCq n l f hn hl hfl hb;have hSL:∀v:Nat,v<n->Zhn n v (Zaw l f v):=λ v _=>Zut hb v
 have hgood:=ZoM hn (Zqq hst) hsn hSL;have main:∀(r:PV) (ob:Ob),(match Zb0 n (Zaw l f) st with|some W=>r= .tup [.ref 2000 7 0 n n, .bool true]/\ob= .row 7 (ZdD W)|none=>r= .tup [.nilS, .bool false]/\ob= .dead)->
   Zag Tryz.prog 160 [.d (pD n l f), .d (Zab st)] [(2000, .dead)] r [(2000,ob)]:=by
  intro r ob hro;have hr1:r.only [2000] 4=true:=by
   revert hro;split<;>(rintro⟨rfl,rfl⟩;rfl)
  have hr2:ob.only [2000]=true:=by
   revert hro;split<;>(rintro⟨rfl,rfl⟩;rfl)
  refine ZsF Tryz.func160 rfl (by decide+kernel) (uW rfl) rfl (ZbM rfl) hr1 (by simp[hr2]) rfl ?_;intro B X w0;refine kw1 kO kc0 (kc1 hsteps) ?_;refine Zaf (λ(k:Nat)=>k<=n) (λ k=>[(0, .d (pD n l f)),(1, .d (Zab st)),(6, .d (.sl (Zih n l f))),(7, .ref 27 7 0 n n),(29, .int n),(30, .int k)]) (λ k=>[(27, .row 7 (ZdD (Zex n k)))]) (λ k=>n-k) 0 ?_ ?_ ?_
  ·exact uI _
  ·exact kN (kc2 @Zt1 @Zh1.eq_1) []
  ·intro k hk;have hlen:=Zjn n k;rcases uF k n with hlt|hge
   ·have hg:(Zex n k)[k]? =some Zh1:=by rw[ZkX hlt,if_neg (by omega)]
    have hstp:=Zuf hlt;refine kw1 kO (kc3 hg hlen @Zh1.eq_1) kc0 ?_;refine⟨k+1,?_,kN (kc3 @hstp.symm @yP.{0,0} @ZdM.eq_1) [],?_⟩
    ·omega
    ·omega
   ·refine kw1 kP kc0 kc0 ?_;have:k=n:=by omega
    subst this;rw[ZvS k st];refine Zaf (λ(j:Nat)=>j<=st.length) (λ j=>[(0, .d (pD k l f)),(1, .d (Zab st)),(6, .d (.sl (Zih k l f))),(7, .ref 27 7 0 k k),(38, .d (Zab st)),(39, .int st.length),(40, .int j)]) (λ j=>[(27, .row 7 (ZdD (ZdJ k st j)))]) (λ j=>st.length-j) 0 ?_ ?_ ?_
    ·exact uI _
    ·exact kN kc0 []
    ·intro j hj;have hlen:=Zh6 k st j;rcases uF j st.length with hlt|hge2
     ·obtain⟨x,hx⟩:=Zad hlt;have hxi:=hst x (uA hx);have hsu:=ZqR (n:=k) hx;obtain⟨v,rfl⟩:∃v:Nat,x=v:=⟨x.toNat,by omega⟩;have hg:(ZdJ k st j)[v]? =some (wAt (ZdJ k st j) v):=ZdS (v:=(v:Int)) hlen (by omega) (by omega);rw[uL]at hsu;refine kw1 kO (kc3 hx hg hlen) kc0 ?_;refine⟨j+1,?_,kN (kc3 hsu @yP.{0,0} @Zc5.eq_1) [],?_⟩
      ·omega
      ·omega
     ·refine kw1 kP kc0 kc0 ?_;have:j=st.length:=by omega
      subst this;refine Zaf (λ(q:Nat)=>match q with|k'=>k'<=k+1/\ZbR (λ i=>(Zay (Zaw l f) (Zau k st) i).2.2.isEmpty) k'=none) (λ k'=>[(0, .d (pD k l f)),(6, .d (.sl (Zih k l f))),(7, .ref 27 7 0 k k),(11, .d (Zab (Zay (Zaw l f) (Zau k st) k').2.2)),(12, .ref 55 1 0 k k),(13, .int k')]) (λ k'=>[(27, .row 7 (ZdD (Zay (Zaw l f) (Zau k st) k').1)),(55, .row 1 (Zn4 (Zay (Zaw l f) (Zau k st) k').2.1))]) (λ k'=>k+1-k') 0 ?_ ?_ ?_
      ·exact⟨uI _,rfl⟩
      ·exact kN (kc3 @Zay.eq_1 @Zau.eq_1 @zP.{0,0}) []
      ·rintro m ⟨hm,hfirst⟩;obtain⟨hG,hqn⟩:=hgood m hm;have hit:Zay (Zaw l f) (Zau k st) (m+1)=Zbq (Zaw l f) (Zay (Zaw l f) (Zau k st) m) (Zay (Zaw l f) (Zau k st) m).2.2.length:=rfl;have hend:(Zay (Zaw l f) (Zau k st) m).2.2.isEmpty=true->Zb0 k (Zaw l f) st=some (Zay (Zaw l f) (Zau k st) m).1:=λ h=>by
        rw[Zb0,ZhM,Zst (by omega) hfirst h];rfl
       have hnx:(Zay (Zaw l f) (Zau k st) m).2.2.isEmpty=false->ZbR (λ i=>(Zay (Zaw l f) (Zau k st) i).2.2.isEmpty) (m+1)=none:=λ h=>Ztk hfirst h
       try dsimp only
       generalize Zay (Zaw l f) (Zau k st) m=σ at hG hqn hit hend hnx|-;have hq40:k*(m+1)<=2048*2050:=zM hn (by omega);rcases hem:σ.2.2.isEmpty with _|_
       ·have hpos:0<σ.2.2.length:=by
         rcases qT σ.2.2.length with h|h
         ·rw[jO.1 h]at hem;cases hem
         ·exact h
        rcases uF k m with hbig|hsmall
        ·have e:Zb0 k (Zaw l f) st=none:=by
          have:m+1=k+2:=by omega
          have h2:=hnx hem;rw[this]at h2;rw[Zb0,ZhM,h2];rfl
         rw[e]at hro;obtain⟨rfl,rfl⟩:=hro;refine kw1 kP kc0 kc0 ?_;refine kR kc0 [(2000,900)] [(4, .nilS),(5, .bool false)] [(2000, .dead)] ?_;refine ZaX ?_;exact⟨⟨_,rfl,rfl,rfl,trivial⟩,uM.2 ⟨rfl,yB _⟩⟩
        ·refine kw1 kP kc0 kc0 ?_;refine Zas _ (ZdV 14 900 1 rfl rfl) ?_;refine Zaf (λ(j:Nat)=>j<=σ.2.2.length) (λ j=>[(0, .d (pD k l f)),(6, .d (.sl (Zih k l f))),(7, .ref 27 7 0 k k),(12, .ref 55 1 0 k k),(13, .int ((m:Int)+1)),(14, .ref 900 1 0 (Zbq (Zaw l f) σ j).2.2.length (Zbq (Zaw l f) σ j).2.2.length),(68, .d (Zab σ.2.2)),(69, .int σ.2.2.length),(70, .int j)]) (λ j=>[(27, .row 7 (ZdD (Zbq (Zaw l f) σ j).1)),(55, .row 1 (Zn4 (Zbq (Zaw l f) σ j).2.1)),(900, .row 1 (intsL (Zbq (Zaw l f) σ j).2.2))]) (λ j=>σ.2.2.length-j) 0 ?_ ?_ ?_
         ·exact uI _
         ·exact kN (kc1 @ZA8) []
         ·intro j hj;rcases uF j σ.2.2.length with hjl|hjg
          ·obtain⟨x,hx⟩:=Zad hjl;have hxi:=hG.2.2.1 x (uA hx);obtain⟨v,rfl⟩:∃v:Nat,x=v:=⟨x.toNat,by omega⟩;have hmg:=Znr hG hSL j (by omega);have hin:=Zo1 hmg (v:=(v:Int)) (L:=Zaw l f v) (by omega) (by omega) (hSL v (by omega));have hms:=ZjB (ST:=Zaw l f) hx;rw[uL]at hms;have hcnt:∀τ:LS,Zeo k (70437463654400*m+16777216*j+16777216) (j+1) τ->τ.2.2.length<=4300000:=λ τ h=>by
            have h1:=h.2.2.2.2;have h2:τ.2.1.count true<=k:=by rw[<-h.2.1];exact List.count_le_length
            omega
           try dsimp only
           generalize Zbq (Zaw l f) σ j=μ at hmg hin hms|-;have hs:=ZkM l f v l.length;have hsl:(Zdi l f l.length v)=(Zaw l f v).map stD:=rfl;have hsr:(List.map (λ v=>D.sl (Zdi l f l.length v)) (List.range k))[v]? =some (.sl ((Zaw l f v).map stD)):=by simp[show v<k by omega];rfl
           rw[hsl,uD]at hs;have gb:μ.2.1[v]? =some (bAt μ.2.1 v):=ZlS (v:=(v:Int)) hmg.2.1 (by omega) (by omega);have l1:=hmg.1;have l2:=hmg.2.1;refine kw1 kO (kc6 hx gb l1 l2 hsr @zA) kc0 ?_;refine Zaf (λ(i:Nat)=>i<=(Zaw l f v).length) (λ i=>[(0, .d (pD k l f)),(6, .d (.sl (Zih k l f))),(7, .ref 27 7 0 k k),(12, .ref 55 1 0 k k),(13, .int ((m:Int)+1)),(14, .ref 900 1 0 (Za4 (Zaw l f v) v μ i).2.2.length (Za4 (Zaw l f v) v μ i).2.2.length),(16, .int v),(68, .d (Zab σ.2.2)),(69, .int σ.2.2.length),(70, .int j),(80, .d (.sl ((Zaw l f v).map stD))),(81, .int (Zaw l f v).length),(82, .int i)]) (λ i=>[(27, .row 7 (ZdD (Za4 (Zaw l f v) v μ i).1)),(55, .row 1 (Zn4 (Za4 (Zaw l f v) v μ i).2.1)),(900, .row 1 (intsL (Za4 (Zaw l f v) v μ i).2.2))]) (λ i=>(Zaw l f v).length-i) 0 ?_ ?_ ?_
           ·exact uI _
           ·exact kN (kc3 @Zw2 @yP.{0,0} @uL) []
           ·intro i hi;rcases uF i (Zaw l f v).length with hil|hig
            ·obtain⟨s,hs2⟩:=Zad hil;obtain⟨hgi,hvi⟩:=hin i;have hsi:=hSL v (by omega) s (uA hs2);have hns:=ZjA (v:=(v:Int)) (σ:=μ) hs2;have hlq:=hcnt _ hgi
             try dsimp only
             generalize Za4 (Zaw l f v) v μ i=τ at hgi hvi hns hlq|-;obtain⟨W,Bs,q⟩:=τ;obtain⟨to,len,bd,bk⟩:=s;obtain⟨u,rfl⟩:∃u:Nat,to=u:=⟨to.toNat,by have:=hsi.1;dsimp only at this;omega⟩;dsimp only at hsi hvi hlq hns;have g1:W.length=k:=hgi.1;have g2:Bs.length=k:=hgi.2.1;have gv:W[v]? =some (wAt W v):=ZdS (v:=(v:Int)) g1 (by omega) (by omega);have gu:W[u]? =some (wAt W u):=ZdS (v:=(u:Int)) g1 (by omega) (by omega);have gbu:Bs[u]? =some (bAt Bs u):=ZlS (v:=(u:Int)) g2 (by omega) (by omega);have bv:=hgi.2.2.2.1 _ (uA gv);have bu:=hgi.2.2.2.1 _ (uA gu);have htk:(List.map D.int q).take q.length=List.map D.int q:=Zat _ _;rcases gT ((wAt W u).1<(wAt W v).1+len)with hlt|hlt
             ·rcases hbu:bAt Bs u with _|_
              ·rw[Zuw hlt hbu]at hns;rw[hbu]at gbu;dsimp only at hns;rw[uL]at hns;refine kw1 kO (kc8 hs2 gv gu gbu g1 g2 htk @yI.{0}) kc0 ?_;refine⟨i+1,?_,kN (kc4 hns @yP.{0,0} @uU.{0,0} @uC.{0}) [(900,124)],?_⟩
               ·omega
               ·omega
              ·rw[ZyH hlt hbu]at hns;rw[hbu]at gbu;dsimp only at hns;rw[uL]at hns;refine kw1 kO (kc8 hs2 gv gu gbu g1 g2 htk @yI.{0}) kc0 ?_;refine⟨i+1,?_,kN (kc2 hns @yP.{0,0}) [],?_⟩
               ·omega
               ·omega
             ·rw[Zzv hlt]at hns;refine kw1 kO (kc8 hs2 gv gu gbu g1 g2 htk @yI.{0}) kc0 ?_;refine⟨i+1,?_,kN (kc2 hns @yP.{0,0}) [],?_⟩
              ·omega
              ·omega
            ·have:i=(Zaw l f v).length:=by omega
             subst this;refine kw1 kO kc0 kc0 ?_;refine⟨j+1,?_,kN (kc1 hms) [],?_⟩
             ·omega
             ·omega
          ·have:j=σ.2.2.length:=by omega
           subst this;have hmg:=Znr hG hSL σ.2.2.length (uH _);rw[<-hit]at hmg;have hnx:=hnx hem
           try dsimp only
           rw[<-hit];generalize hnext:Zay (Zaw l f) (Zau k st) (m+1)=τ at hmg|-;refine Zas _ (Zde 900 1 _ rfl (ZcW _ rfl) (by decide)) ?_;refine kw1 kO (kc2 @qU.{0} @Zat) kc0 ?_;refine⟨m+1,?_,kN (kc5 @hnext @qU.{0} @Zat @qN @gQ) [],?_⟩
           ·exact⟨by omega,hnx⟩
           ·omega
       ·have e:=hend hem;have h0:σ.2.2.length=0:=by
         rw[Ab]at hem;rw[hem];rfl
        rw[e]at hro;obtain⟨rfl,rfl⟩:=hro;refine kw1 kP (kc1 h0) kc0 ?_;refine kR kc0 [(2000,27)] [(4, .ref 2000 7 0 _ _),(5, .bool true)] [(2000, .row 7 _)] ?_;refine ZaX ?_;exact⟨⟨_,rfl,rfl,rfl,trivial⟩,uM.2 ⟨rfl,yB _⟩⟩
 refine⟨λ W hW=>main _ _ (by rw[hW];exact⟨rfl,rfl⟩),λ hN=>main _ _ (by rw[hN];exact⟨rfl,rfl⟩)⟩
def Zap (W:List Way)(v:Int):Nat->Int
 |0=>v
 |k+1=>(wAt W (Zap W v k)).2.1
def ZaJ (W:List Way)(v:Int)(k:Nat):Stp:=(wAt W (Zap W v k)).2.2.1
def ZcZ (W:List Way)(f:List Int)(m0 v:Int):Nat->Int
 |0=>m0
 |k+1=>if(ZaJ W v k).2.2.2 then min (ZcZ W f m0 v k) (at0 f (ZaJ W v k).2.2.1)else ZcZ W f m0 v k
def ZbA (W:List Way)(f:List Int)(m v:Int):Nat->List Int
 |0=>f
 |k+1=>(ZbA W f m v k).set (ZaJ W v k).2.2.1.toNat (at0 (ZbA W f m v k) (ZaJ W v k).2.2.1+(if(ZaJ W v k).2.2.2 then -m else m))
theorem ZeX (W:List Way)(v:Int)(k:Nat):Zap W v (k+1)=(wAt W (Zap W v k)).2.1:=rfl
theorem ZnW (W:List Way)(f:List Int)(m0 v:Int)(k:Nat):ZcZ W f m0 v (k+1)=if(ZaJ W v k).2.2.2 then min (ZcZ W f m0 v k) (at0 f (ZaJ W v k).2.2.1)else ZcZ W f m0 v k:=rfl
theorem ZnX (W:List Way)(f:List Int)(m v:Int)(k:Nat):ZbA W f m v (k+1)=(ZbA W f m v k).set (ZaJ W v k).2.2.1.toNat (at0 (ZbA W f m v k) (ZaJ W v k).2.2.1+(if(ZaJ W v k).2.2.2 then -m else m)):=rfl
def ZeC (W:List Way)(f nd:List Int)(t:Int)(K:Nat):Int:=min (ZcZ W f (at0 nd t) t K) (-(at0 nd (Zap W t K)))
theorem Znj (W:List Way)(f nd:List Int)(t:Int)(K:Nat):ZeC W f nd t K=min (ZcZ W f (at0 nd t) t K) (-(at0 nd (Zap W t K))):=rfl
theorem Zhe (W:List Way)(f:List Int)(m v:Int):∀k,(ZbA W f m v k).length=f.length
 |0=>rfl
 |k+1=>by simp[ZbA,Zhe W f m v k]
theorem Zp1 {W:List Way}{f:List Int}{m v F M:Int}(hf:Zb4 f F)(hM:0<=M)(hm:-M<=m/\m<=M):∀k:Nat,Zb4 (ZbA W f m v k) (F+M*k)
 |0=>by simpa[ZbA]using hf
 |k+1=>by
  have ih:=Zp1 (W:=W) (v:=v) hf hM hm k;have h1:=ih (ZaJ W v k).2.2.1;have e:F+M*((k+1:Nat):Int)=F+M*k+M:=by rw[qN,gQ,kY,Int.mul_one,zI]
  rw[e,ZbA];refine Znu (Zfy ih (by omega)) ?_ ?_<;>split<;>omega
theorem Zmk {W:List Way}{f:List Int}{m0 v F:Int}(hf:Zb4 f F)(hm:-F<=m0/\m0<=F):∀k:Nat,-F<=ZcZ W f m0 v k/\ZcZ W f m0 v k<=F
 |0=>by simpa[ZcZ]using hm
 |k+1=>by
  have ih:=Zmk (W:=W) (v:=v) hf hm k;have h1:=hf (ZaJ W v k).2.2.1;rw[ZcZ];split<;>omega
def Zn7 (n m:Nat)(W:List Way):Prop:=W.length=n/\∀w∈W,0<=w.2.1/\w.2.1<(n:Int)/\0<=w.2.2.1.2.2.1/\w.2.2.1.2.2.1<(m:Int)
theorem ZmN {n m:Nat}{W:List Way}{v:Int}(hW:Zn7 n m W)(h0:0<=v)(hv:v<n):∀k,0<=Zap W v k/\Zap W v k<n
 |0=>⟨h0,hv⟩
 |k+1=>by
  obtain⟨h1,h2⟩:=ZmN hW h0 hv k;have:=hW.2 _ (uA (ZdS hW.1 h1 h2));exact⟨this.1,this.2.1⟩
abbrev pM (n:Nat)(l:List Bd)(m:Nat):Ob:= .cells [.int n, .d (ZbN l), .ref 1001 1 0 m m]
theorem Zzw (n:Nat)(l:List Bd)(f:List Int)(W:List Way)(t:Int)(nd:List Int)(K:Nat)(hn:n<=2048)(hW:Zn7 n f.length W)(hndl:nd.length=n)
  (ht:0<=t/\t<n)(hK:K<=n)(h1:∀j,j<K->(wAt W (Zap W t j)).2.2.2=false)(h2:(wAt W (Zap W t K)).2.2.2=true)(hf:Zb4 f 1125899906842624)(hnd:Zb4 nd 1125899906842624):
  Zag Tryz.prog 213 [.ptr 1000 0 0 0, .d (.sl (ZdD W)), .int t, .ref 1002 1 0 n n] [(1000,pM n l f.length),(1001, .row 1 (intsL f)),(1002, .row 1 (intsL nd))]
   (.tup [.int (Zap W t K), .int (ZeC W f nd t K)]) [(1000,pM n l f.length),(1001, .row 1 (intsL (ZbA W f (ZeC W f nd t K) t K))),(1002, .row 1 (intsL nd))]:=by
 have hbk:=ZmN hW ht.1 ht.2;have hms:=Zmk (W:=W) (v:=t) (m0:=at0 nd t) hf (hnd t);have hst:∀k,∃b:Nat,(ZaJ W t k).2.2.1=b/\b<f.length:=by
  intro k;have:=hW.2 _ (uA (ZdS hW.1 (hbk k).1 (hbk k).2));exact⟨(ZaJ W t k).2.2.1.toNat,by rw[ZaJ];omega,by rw[ZaJ];omega⟩
 refine kM Tryz.func213 ?_;intro B X w0;obtain⟨t',rfl⟩:∃t':Nat,t=t':=⟨t.toNat,by omega⟩;have gnt:=ZaK (r:=nd) (i:=t') (by omega);have hWl:=hW.1;refine kw1 kO (kc2 gnt hndl) kc0 ?_;refine Zaf (λ(k:Nat)=>k<=K) (λ k=>[(0, .ptr 1000 0 0 0),(1, .d (.sl (ZdD W))),(2, .int t'),(3, .ref 1002 1 0 n n),(10, .int (Zap W t' k)),(11, .int (ZcZ W f (at0 nd t') t' k)),(12, .int (Zap W t' k))]) (λ k=>[(1000,pM n l f.length),(1001, .row 1 (intsL f)),(1002, .row 1 (intsL nd))]) (λ k=>K-k) 0 ?_ ?_ ?_
 ·exact uI _
 ·exact kN (kc2 @Zap.eq_1 @ZcZ.eq_1) []
 ·intro k hk;obtain⟨b,hb1,hb2⟩:=hst k;have gb:=ZaK hb2;have hbb:=hf b;have hmk:=hms k;have hmn:=ZnW W f (at0 nd t') t' k;have hbn:=ZeX W t' k;obtain⟨hv1,hv2⟩:=hbk k;have hgb:(wAt W (Zap W t' k)).2.2.2=decide (k=K):=by
   rcases gT (k=K)with h|h
   ·rw[h,h2];simp
   ·rw[h1 k (by omega),yE h]
  rw[hb1]at hmn;rw[ZaJ]at hb1 hmn;obtain⟨v,hv⟩:∃v:Nat,Zap W t' k=v:=⟨(Zap W t' k).toNat,by omega⟩;rw[hv]at hv1 hv2 hbn hgb hmn hb1;have gv:W[v]? =some (wAt W v):=ZdS (v:=(v:Int)) hWl hv1 hv2;rcases uF k K with hlt|hge
  ·rw[yE (show k≠K by omega)]at hgb;generalize hw:wAt W v=w at gv hbn hgb hmn hb1;obtain⟨lg,fr,⟨s1,s2,s3,s4⟩,bg⟩:=w;dsimp only at hbn hgb hmn hb1;subst hgb;cases s4 with
   |false=>
    rw[if_neg (by decide)]at hmn;refine kw1 kO (kc4 gv hv hWl hb1) kc0 ?_;refine⟨k+1,?_,kN (kc2 hbn hmn) [],?_⟩
    ·omega
    ·omega
   |true=>
    rw[if_pos rfl]at hmn;refine kw1 kO (kc6 gv hv hWl hb1 gb @ZfR) kc0 ?_;refine⟨k+1,?_,kN (kc2 hbn hmn) [],?_⟩
    ·omega
    ·omega
  ·have:k=K:=by omega
   subst this;rw[yN rfl]at hgb;have gnv:=ZaK (r:=nd) (i:=v) (by omega);have hnv:=hnd v;have hsm:=Znj W f nd t' k;rw[hv]at hsm;have hsent:=Zp1 (W:=W) (v:=(t':Int)) (m:=ZeC W f nd t' k) (M:=1125899906842624) hf (by omega) (by omega);have hfr:Zap W t' k=v:=hv;refine kw1 kP (kc7 gv hv hWl hgb gnv hndl @ZfR) kc0 ?_;rw[<-hsm];generalize ZeC W f nd t' k=m at hsm hsent|-;refine Zaf (λ(j:Nat)=>j<=k) (λ j=>[(0, .ptr 1000 0 0 0),(1, .d (.sl (ZdD W))),(10, .int v),(11, .int m),(14, .int (Zap W t' j))]) (λ j=>[(1000,pM n l f.length),(1001, .row 1 (intsL (ZbA W f m t' j))),(1002, .row 1 (intsL nd))]) (λ j=>k-j) 0 ?_ ?_ ?_
   ·exact uI _
   ·exact kN (kc2 @Zap.eq_1 @ZbA.eq_1) []
   ·intro j hj;obtain⟨b,hb1,hb2⟩:=hst j;have hsl:=Zhe W f m t' j;have gb:=ZaK (r:=ZbA W f m t' j) (i:=b) (by omega);have hbb:=hsent j b;have hmn:=ZnX W f m t' j;have hbn:=ZeX W t' j;obtain⟨hv1,hv2⟩:=hbk j;have hgj:(wAt W (Zap W t' j)).2.2.2=decide (j=k):=by
     rcases gT (j=k)with h|h
     ·rw[h,h2];simp
     ·rw[h1 j (by omega),yE h]
    rw[hb1,uL]at hmn;rw[ZaJ]at hb1 hmn;obtain⟨u,hu⟩:∃u:Nat,Zap W t' j=u:=⟨(Zap W t' j).toNat,by omega⟩;rw[hu]at hv1 hv2 hbn hgj hmn hb1;have gu:W[u]? =some (wAt W u):=ZdS (v:=(u:Int)) hWl hv1 hv2;rcases uF j k with hlt|hge2
    ·rw[yE (show j≠k by omega)]at hgj;generalize hw:wAt W u=w at gu hbn hgj hmn hb1;obtain⟨lg,fr,⟨s1,s2,s3,s4⟩,bg⟩:=w;dsimp only at hbn hgj hmn hb1;subst hgj;cases s4 with
     |false=>
      rw[if_neg (by decide)]at hmn;refine kw1 kO (kc6 gu hu hWl hb1 gb hsl) kc0 ?_;refine⟨j+1,?_,kN (kc3 hbn hmn @yP.{0,0}) [],?_⟩
      ·omega
      ·omega
     |true=>
      rw[if_pos rfl]at hmn;refine kw1 kO (kc6 gu hu hWl hb1 gb hsl) kc0 ?_;refine⟨j+1,?_,kN (kc4 hbn hmn @yP.{0,0} @Int.sub_eq_add_neg) [],?_⟩
      ·omega
      ·omega
    ·have:j=k:=by omega
     subst this;rw[yN rfl]at hgj;refine kw1 kP (kc4 gu hu hWl hgj) kc0 ?_;refine ZaX ?_;exact⟨⟨_,rfl,rfl,rfl,trivial⟩,uM.2 ⟨rfl,uM.2 ⟨rfl,uM.2 ⟨rfl,yB _⟩⟩⟩⟩
def ZgY (nd:List Int)(v:Nat):List Int:=if at0 nd v<0 then[(v:Int)]else[]
def ZbL (nd:List Int)(k:Nat):List Int:=Za1 (ZgY nd) k
def ZaM (W:List Way)(nd:List Int):Nat->Int
 |0=>-1
 |k+1=>if 0<at0 nd k/\-576460752303423488<(wAt W k).1/\(ZaM W nd k<0\/(wAt W (ZaM W nd k)).1<(wAt W k).1)then k else ZaM W nd k
def Zmq (W:List Way)(t:Int)(m:Nat):Option Nat:=ZbR (λ k=>(wAt W (Zap W t k)).2.2.2) m
def ZhL (n m:Nat)(W:List Way):Bool:=decide (W.length=n)&&W.all λ w=>decide (0<=w.2.1/\w.2.1<(n:Int)/\0<=w.2.2.1.2.2.1/\w.2.2.1.2.2.1<(m:Int))
def inB (f:List Int):Bool:=f.all λ x=>decide (-1125899906842624<=x/\x<=1125899906842624)
def Zk8 (n:Nat)(l:List Bd)(f nd:List Int):Option (List Int×List Int):=
 match Zb0 n (Zaw l f) (ZbL nd n)with
 |none=>none
 |some W=>match Zmq W (ZaM W nd n) (n+1)with
  |none=>none
  |some K=>if(decide (0<=ZaM W nd n)&&ZhL n l.length W&&inB f&&inB nd)=true then
   some (ZbA W f (ZeC W f nd (ZaM W nd n) K) (ZaM W nd n) K,
    (nd.set (Zap W (ZaM W nd n) K).toNat (at0 nd (Zap W (ZaM W nd n) K)+ZeC W f nd (ZaM W nd n) K)).set (ZaM W nd n).toNat
     (at0 (nd.set (Zap W (ZaM W nd n) K).toNat (at0 nd (Zap W (ZaM W nd n) K)+ZeC W f nd (ZaM W nd n) K)) (ZaM W nd n)-ZeC W f nd (ZaM W nd n) K))else none
def ZfI (n:Nat)(l:List Bd):Nat->List Int->List Int->Option (List Int)
 |0,_,_=>none
 |r+1,f,nd=>if(ZbL nd n).isEmpty then some f else match Zk8 n l f nd with
  |none=>none
  |some s=>ZfI n l r s.1 s.2
theorem Zk3 {f:List Int}(h:inB f=true):Zb4 f 1125899906842624:=by
 intro v;rw[at0];cases hx:f[v.toNat]? with
 |none=>simp
 |some x=>
  simp only[inB,uY,uE]at h;exact h x (uA hx)
theorem ZCa {n m:Nat}{W:List Way}(h:ZhL n m W=true):Zn7 n m W:=by
 simp only[ZhL,uK,uE,uY]at h;exact h
theorem Znf {p:Nat->Bool}:∀{m k:Nat},ZbR p m=some k->k<m/\p k=true/\∀j,j<k->p j=false:=by
 intro m
 induction m with
 |zero=>intro k h;simp[ZbR]at h
 |succ m ih=>
  intro k h;rw[ZbR]at h;cases hm:ZbR p m with
  |some j=>
   rw[hm]at h;simp only[yC]at h;subst h;obtain⟨h1,h2,h3⟩:=ih hm;exact⟨by omega,h2,h3⟩
  |none=>
   rw[hm]at h;have hno:∀j,j<m->p j=false:=by
    intro j hj;cases hp:p j with
    |false=>rfl
    |true=>
     exfalso;have key:∀m,j<m->ZbR p m≠none:=by
      intro m
      induction m with
      |zero=>intro h;omega
      |succ m ih2=>
       intro hjm hn;rw[ZbR]at hn;cases hq:ZbR p m with
       |some i=>rw[hq]at hn;simp at hn
       |none=>
        rw[hq]at hn;rcases uF j m with h|h
        ·exact ih2 h hq
        ·have:j=m:=by omega
         subst this;simp[hp]at hn
     exact key m hj hm
   by_cases hp:p m=true
   ·simp[hp]at h;subst h;exact⟨by omega,hp,hno⟩
   ·simp[hp]at h
theorem ZiV (nd:List Int):∀k,(∀x∈ZbL nd k,0<=x/\x<(k:Int))/\(ZbL nd k).length<=k
 |0=>by simp[ZbL,Za1]
 |k+1=>by
  obtain⟨h1,h2⟩:=ZiV nd k;simp only[ZbL,Za1]at h1 h2|-;refine⟨λ x hx=>?_,?_⟩
  ·rcases yH.1 hx with hx|hx
   ·have:=h1 x hx;omega
   ·rw[ZgY]at hx;split at hx
    ·rw[uR.1 hx];omega
    ·simp at hx
  ·rw[uC,ZgY];split<;>simp<;>omega
theorem ZkY (W:List Way)(nd:List Int):∀k,ZaM W nd k<(k:Int)/\-1<=ZaM W nd k
 |0=>by simp[ZaM]
 |k+1=>by
  have:=ZkY W nd k;rw[ZaM];split<;>omega
theorem ZxH (n:Nat)(l:List Bd)(f0 f1:List Int)(R:Nat)(hg:nOk (n,l)=true)(hfl:f0.length=l.length)(hc:ZfI n l R f0 (ZbC l n l.length)=some f1):
  Zag Tryz.prog 162 [.ptr 1000 0 0 0] [(1000,pM n l l.length),(1001, .row 1 (intsL f0))] (.tup []) [(1000,pM n l l.length),(1001, .row 1 (intsL f1))]:=by
 obtain⟨h1,h2,h3,h4⟩:=ZeL hg;dsimp only at h1 h2 h3 h4;have hneed:=ZBH n l f0 hg;have hnl:=Zig l n l.length;generalize ZbC l n l.length=nd0 at hc hneed hnl;refine kM Tryz.func162 ?_;intro B X w0;have htk0:(f0.map D.int).take l.length=f0.map D.int:=by rw[<-hfl];exact Zat _ _
 refine kw1 kO (kc3 hfl htk0 @qU.{0}) (kc1 (kfc [(2000,14)] hneed)) ?_;refine Zaf (λ(q:Nat×List Int×List Int)=>match q with|⟨r,f,nd⟩=>ZfI n l r f nd=some f1/\f.length=l.length/\nd.length=n) (λ⟨r,f,nd⟩=>[(0, .ptr 1000 0 0 0),(2, .ref 14 1 0 n n)]) (λ⟨r,f,nd⟩=>[(1000,pM n l l.length),(1001, .row 1 (intsL f)),(14, .row 1 (intsL nd))]) (λ⟨r,f,nd⟩=>r) (R,f0,nd0) ?_ ?_ ?_
 ·exact⟨hc,hfl,hnl⟩
 ·exact kN kc0 []
 ·rintro⟨r,f,nd⟩ ⟨hcf,hfl,hnl⟩
  try dsimp only
  cases r with
  |zero=>rw[ZfI]at hcf;cases hcf
  |succ r=>
   rw[ZfI]at hcf;refine kw1 kO kc0 kc0 ?_;refine Zas _ (ZdV 3 900 1 rfl rfl) ?_;refine Zaf (λ(i:Nat)=>i<=n) (λ i=>[(0, .ptr 1000 0 0 0),(2, .ref 14 1 0 n n),(3, .ref 900 1 0 (ZbL nd i).length (ZbL nd i).length),(15, .ref 14 1 0 n n),(16, .int n),(17, .int i)]) (λ i=>[(1000,pM n l l.length),(1001, .row 1 (intsL f)),(14, .row 1 (intsL nd)),(900, .row 1 (intsL (ZbL nd i)))]) (λ i=>n-i) 0 ?_ ?_ ?_
   ·exact uI _
   ·exact kN kc0 []
   ·intro i hi;rcases uF i n with hin|hin
    ·have gi:=ZaK (r:=nd) (i:=i) (by omega);have hns:ZbL nd (i+1)=ZbL nd i++ZgY nd i:=rfl;have hnl2:=(ZiV nd i).2;rcases gT (at0 nd i<0)with hneg|hneg
     ·rw[ZgY,if_pos hneg]at hns;refine kw1 kO (kc3 gi hnl @Zat) kc0 ?_;refine⟨i+1,?_,kN (kc3 hns @uU.{0,0} @uC.{0}) [(900,27)],?_⟩
      ·omega
      ·omega
     ·rw[ZgY,if_neg hneg,yQ]at hns;refine kw1 kO (kc3 gi hnl @Zat) kc0 ?_;refine⟨i+1,?_,kN (kc1 hns) [],?_⟩
      ·omega
      ·omega
    ·have:i=n:=by omega
     subst this;obtain⟨hs1,hs2⟩:=ZiV nd i;refine Zas _ (Zde 900 1 _ rfl (ZcW _ rfl) (by decide)) ?_;rcases hem:(ZbL nd i).isEmpty with _|_
     ·rw[hem]at hcf;rw[if_neg (by decide),Zk8]at hcf;have hpos:0<(ZbL nd i).length:=by
       rcases qT (ZbL nd i).length with h|h
       ·rw[jO.1 h]at hem;cases hem
       ·exact h
      have hlong:=(Zj7 i l f (ZbL nd i) (by omega) (by omega) hfl (λ k b hb=>by have:=h4 k b hb;omega) hs1 hs2).1;cases hW:Zb0 i (Zaw l f) (ZbL nd i)with
      |none=>rw[hW]at hcf;cases hcf
      |some W=>
       rw[hW]at hcf;have hlong:=hlong W hW;dsimp only at hcf;cases hK:Zmq W (ZaM W nd i) (i+1)with
       |none=>rw[hK]at hcf;cases hcf
       |some K=>
        rw[hK]at hcf;dsimp only at hcf;by_cases hcond:(decide (0<=ZaM W nd i)&&ZhL i l.length W&&inB f&&inB nd)=true
        ·rw[if_pos hcond]at hcf;dsimp only at hcf;simp only[uK,uE]at hcond;obtain⟨⟨⟨c1,c2⟩,c3⟩,c4⟩:=hcond;obtain⟨k1,k2,k3⟩:=Znf hK;have hWI:=ZCa c2;have hpk:=ZkY W nd i;have hsend:=Zzw i l f W (ZaM W nd i) nd K (by omega) (hfl▸hWI) hnl ⟨c1,hpk.1⟩ (by omega) k3 k2 (Zk3 c3) (Zk3 c4);rw[hfl]at hsend;have hnw:=Zk3 c4;have hmm:=Zmk (W:=W) (v:=ZaM W nd i) (m0:=at0 nd (ZaM W nd i)) (Zk3 c3) (hnw _) K;have hsl:=Zhe W f (ZeC W f nd (ZaM W nd i) K) (ZaM W nd i) K;have hbk:=ZmN hWI c1 hpk.1 K;have hWl:=hWI.1;have htkf:(f.map D.int).take l.length=f.map D.int:=by rw[<-hfl];exact Zat _ _
         refine kw1 kO (kc5 hfl hnl htkf @Zat @qU.{0}) (kc1 (kfc [(2000,35)] hlong)) ?_;refine Zaf (λ(u:Nat)=>u<=i) (λ u=>[(0, .ptr 1000 0 0 0),(2, .ref 14 1 0 i i),(6, .ref 35 7 0 i i),(8, .int (ZaM W nd u)),(38, .ref 14 1 0 i i),(39, .int i),(40, .int u)]) (λ u=>[(1000,pM i l l.length),(1001, .row 1 (intsL f)),(14, .row 1 (intsL nd)),(35, .row 7 (ZdD W))]) (λ u=>i-u) 0 ?_ ?_ ?_
         ·exact uI _
         ·exact kN kc0 []
         ·intro u hu;rcases uF u i with hui|hui
          ·have gn:=ZaK (r:=nd) (i:=u) (by omega);have gw:W[u]? =some (wAt W u):=ZdS (v:=(u:Int)) hWl (by omega) (by omega);obtain⟨q1,q2⟩:=ZkY W nd u;have hps:ZaM W nd (u+1)=if 0<at0 nd u/\-576460752303423488<(wAt W u).1/\(ZaM W nd u<0\/(wAt W (ZaM W nd u)).1<(wAt W u).1)then(u:Int)else ZaM W nd u:=rfl
           generalize ZaM W nd u=p at q1 q2 hps|-;rcases Aw p 0 with hp|hp
           ·rcases gT (0<at0 nd u/\-576460752303423488<(wAt W u).1)with hq|hq
            ·rw[if_pos ⟨hq.1,hq.2, .inl hp⟩]at hps;refine kw1 kO (kc4 gn gw hWl hnl) kc0 ?_
             all_goals
              refine⟨u+1,?_,kN (kc1 hps) [],?_⟩
              ·omega
              ·omega
            ·rw[if_neg (by omega)]at hps;refine kw kO (kc4 gn gw hWl hnl) kc0 ?_
             repeat' first|exact True.intro|refine Bn.mk ?_ ?_|intro hc
             all_goals
              refine⟨u+1,?_,kN (kc1 hps) [],?_⟩
              ·omega
              ·omega
           ·obtain⟨p',rfl⟩:∃p':Nat,p=p':=⟨p.toNat,by omega⟩;have gp:W[p']? =some (wAt W p'):=ZdS (v:=(p':Int)) hWl (by omega) (by omega);rcases gT (0<at0 nd u/\-576460752303423488<(wAt W u).1/\(wAt W p').1<(wAt W u).1)with hq|hq
            ·rw[if_pos ⟨hq.1,hq.2.1, .inr hq.2.2⟩]at hps;refine kw1 kO (kc5 gn gw gp hWl hnl) kc0 ?_
             all_goals
              refine⟨u+1,?_,kN (kc1 hps) [],?_⟩
              ·omega
              ·omega
            ·rw[if_neg (by omega)]at hps;refine kw kO (kc5 gn gw gp hWl hnl) kc0 ?_
             repeat' first|exact True.intro|refine Bn.mk ?_ ?_|intro hc
             all_goals
              refine⟨u+1,?_,kN (kc1 hps) [],?_⟩
              ·omega
              ·omega
          ·have:u=i:=by omega
           subst this;refine Zas _ (Zde 35 7 _ rfl (ZcW _ rfl) (by decide)) ?_;have htkw:(W.map Zla).take u=W.map Zla:=by rw[<-hWl];exact Zat _ _
           have hsm:=Znj W f nd (ZaM W nd u) K;obtain⟨p,hp⟩:∃p:Nat,ZaM W nd u=p:=⟨(ZaM W nd u).toNat,by omega⟩;obtain⟨s,hs⟩:∃s:Nat,Zap W (ZaM W nd u) K=s:=⟨(Zap W (ZaM W nd u) K).toNat,by omega⟩;rw[hs]at hsend hcf hbk hsm;rw[hp]at hsend hcf hpk hsm hmm;rw[uL,uL]at hcf;have gs:=ZaK (r:=nd) (i:=s) (by omega);have gp:=ZaK (r:=nd) (i:=p) (by omega);have ns:=hnw s;have np:=hnw p;generalize ZeC W f nd p K=m at hsend hcf hsm;have gq:((List.map D.int nd).set s (D.sc (.int .i64 (at0 nd s+m))))[p]? =some (D.int (at0 (nd.set s (at0 nd s+m)) p)):=by
            rw[<-yP,uJ,ZaK (by rw[yI];omega)];rfl
           have hq2:-2251799813685248<=at0 (nd.set s (at0 nd s+m)) p/\at0 (nd.set s (at0 nd s+m)) p<=2251799813685248:=by
            rw[ZhB _ _ _ _ (by omega)];split<;>omega
           refine kw1 kO (kc8 hp hfl hnl hWl htkw @qU.{0} gs (kc2 gq @yI.{0})) (kc1 (kmc [(1000,1000),(1001,1001),(1002,14)] hsend)) ?_;refine⟨(r,ZbA W f m p K,(nd.set s (at0 nd s+m)).set p (at0 (nd.set s (at0 nd s+m)) p-m)),?_,kN (kc1 @yP.{0,0}) [],?_⟩
           ·exact⟨hcf,by rw[Zhe,hfl],by rw[yI,yI,hnl]⟩
           ·show r<r+1;omega
        ·rw[if_neg hcond]at hcf;cases hcf
     ·rw[hem,if_pos rfl]at hcf;cases hcf;have h0:(ZbL nd i).length=0:=by
       rw[Ab]at hem;rw[hem];rfl
      refine kw1 kP (kc1 h0) kc0 ?_;refine ZaX ?_;exact⟨⟨_,rfl,trivial⟩,uM.2 ⟨rfl,uM.2 ⟨rfl,yB _⟩⟩⟩
def zeros (l:List Bd):List Int:=List.replicate l.length 0
theorem ZkQ (n:Nat):(∀x∈ZbY n,0<=x/\x<(n:Int))/\(ZbY n).length=n:=by
 refine⟨λ x hx=>?_,by simp[ZbY]⟩;obtain⟨u,hu,rfl⟩:=uN.1 hx;have:=yA.1 hu;omega
theorem Zpc (n:Nat)(l:List Bd):pD n l (zeros l)= .pt [.int n,ZbN l, .sl (List.replicate l.length (D.sc (.int .i64 0)))]:=by simp[pD,zeros]
theorem ZAR (n:Nat)(l:List Bd)(hg:nOk (n,l)=true)(hno:Zb0 n (Zaw l (zeros l)) (ZbY n)=none):
  Zag Tryz.prog 96 [.d (nD (n,l))] [(2000, .dead),(2001, .dead)] (.tup [.nilS, .nilS, .int 9]) [(2000, .dead),(2001, .dead)]:=by
 have hv:Zaa Tryz.prog 159 [nD (n,l)] (.bool true):=hg▸Zga (n,l);obtain⟨h1,h2,h3,h4⟩:=ZeL hg;dsimp only at h1 h2 h3 h4;obtain⟨a1,a2⟩:=ZkQ n;have hall:=Zov n l (zeros l) (by omega);have hlong:=(Zj7 n l (zeros l) (ZbY n) (by omega) (by omega) (by simp[zeros]) (λ k b hb=>by have:=h4 k b hb;omega) a1 (by omega)).2 hno;have htk:(List.replicate l.length (D.sc (.int .i64 0))).take l.length=List.replicate l.length (D.sc (.int .i64 0)):=uG (by simp);have htk2:((ZbY n).map D.int).take n=(ZbY n).map D.int:=uG (by simp[a2]);rw[Zpc]at hall hlong;refine kM Tryz.func96 ?_;intro B X w0;refine kw1 kP (kc6 htk htk2 a2 @qU.{0} @zP.{0,0} @qX.{0}) (kc3 hv (kfc [(2000,25)] hall) (kfc [(2000,26)] hlong)) ?_;refine ZaX ?_;exact⟨⟨_,rfl,rfl,rfl,rfl,trivial⟩,uM.2 ⟨rfl,uM.2 ⟨rfl,yB _⟩⟩⟩
def Ze7 (W:List Way):List Int:=W.map (·.1)
theorem Zkr (n:Nat)(l:List Bd)(f:List Int)(R:Nat)(W0 W:List Way)(hg:nOk (n,l)=true)(h0:Zb0 n (Zaw l (zeros l)) (ZbY n)=some W0)
  (hc:ZfI n l R (zeros l) (ZbC l n l.length)=some f)(hfl:f.length=l.length)(hW:Zb0 n (Zaw l f) (ZbY n)=some W)(hWl:W.length=n):
  Zag Tryz.prog 96 [.d (nD (n,l))] [(2000, .dead),(2001, .dead)] (.tup [.ref 2000 1 0 n n, .ref 2001 1 0 l.length l.length, .int 0]) [(2000, .row 1 (intsL (Ze7 W))),(2001, .row 1 (intsL f))]:=by
 have hv:Zaa Tryz.prog 159 [nD (n,l)] (.bool true):=hg▸Zga (n,l);obtain⟨h1,h2,h3,h4⟩:=ZeL hg;dsimp only at h1 h2 h3 h4;obtain⟨a1,a2⟩:=ZkQ n;have hall:=Zov n l (zeros l) (by omega);have hall2:=Zov n l f (by omega);have hlong:=(Zj7 n l (zeros l) (ZbY n) (by omega) (by omega) (by simp[zeros]) (λ k b hb=>by have:=h4 k b hb;omega) a1 (by omega)).1 W0 h0;have hlong2:=(Zj7 n l f (ZbY n) (by omega) (by omega) hfl (λ k b hb=>by have:=h4 k b hb;omega) a1 (by omega)).1 W hW;have hcert:=ZxH n l (zeros l) f R hg (by simp[zeros]) hc;have htk:(List.replicate l.length (D.sc (.int .i64 0))).take l.length=List.replicate l.length (D.sc (.int .i64 0)):=uG (by simp);have htk2:((ZbY n).map D.int).take n=(ZbY n).map D.int:=uG (by simp[a2]);have htk3:(f.map D.int).take l.length=f.map D.int:=uG (by simp[hfl]);have hz:intsL (zeros l)=List.replicate l.length (D.sc (.int .i64 0)):=by simp[zeros]
 rw[hz]at hcert;rw[Zpc]at hall hlong;refine kM Tryz.func96 ?_;intro B X w0;refine kw1 kP (kc8 htk htk2 htk3 a2 hfl @qU.{0} @zP.{0,0} @qX.{0}) (kc6 hv (kfc [(2000,25)] hall) (kfc [(2000,26)] hlong) (kmc [(1000,21),(1001,19)] hcert) (kfc [(2000,36)] hall2) (kfc [(2000,37)] hlong2)) ?_;refine Zaf (λ(k:Nat)=>k<=n) (λ k=>[(5, .ptr 21 0 0 0),(8, .ref 37 7 0 n n),(10, .ref 42 1 0 n n),(44, .int n),(45, .int k)]) (λ k=>[(21, .cells [.int n, .d (ZbN l), .ref 19 1 0 l.length l.length]),(19, .row 1 (intsL f)),(37, .row 7 (ZdD W)),(42, .row 1 ((Za0 (λ v=>(wAt W v).1) n k).map D.int))]) (λ k=>n-k) 0 ?_ ?_ ?_
 ·exact uI _
 ·exact kN (kc1 @ZhK) []
 ·intro k hk;have hlen:=Zdh (λ v=>(wAt W v).1) n k;rcases uF k n with hlt|hge
  ·have gw:W[k]? =some (wAt W k):=ZdS (v:=(k:Int)) hWl (by omega) (by omega);have hst:=ZhE (g:=λ v=>(wAt W v).1) hlt;have gf:(Za0 (λ v=>(wAt W v).1) n k)[k]? =_:=ZeS hlt;refine kw1 kO (kc4 gw gf hWl hlen) kc0 ?_;refine⟨k+1,?_,kN (kc2 @hst.symm @yP.{0,0}) [],?_⟩
   ·omega
   ·omega
  ·refine kw1 kP kc0 kc0 ?_;have:k=n:=by omega
   subst this;have e:Za0 (λ v=>(wAt W v).1) k k=Ze7 W:=by
    rw[Zhz];refine qI λ u=>?_
    rw[Ze7,uJ,uJ];rcases uF u k with hu|hu
    ·have gw:W[u]? =some (wAt W u):=ZdS (v:=(u:Int)) hWl (by omega) (by omega);rw[gw,qM hu];rfl
    ·rw[uP (by simpa using hu),uP (by omega)];rfl
   refine kR kc0 [(2000,42),(2001,19)] [(2, .ref 2000 1 0 _ _),(3, .ref 2001 1 0 _ _),(4, .int 0)] [(2000, .row 1 _),(2001, .row 1 _)] ?_;refine ZaX ?_;exact⟨⟨_,rfl,rfl,rfl,rfl,trivial⟩,uM.2 ⟨Znm (by rw[e]),uM.2 ⟨rfl,yB _⟩⟩⟩
def SolveOk (g:Net)(a f:List Int):Prop:=∃n:Nat,g.1=n/\a.length=n/\f.length=g.2.length/\
 Zag Tryz.prog 96 [.d (nD g)] [(2000, .dead),(2001, .dead)] (.tup [.ref 2000 1 0 n n, .ref 2001 1 0 g.2.length g.2.length, .int 0]) [(2000, .row 1 (intsL a)),(2001, .row 1 (intsL f))]
def SolveNo (g:Net)(e:Int):Prop:=Zag Tryz.prog 96 [.d (nD g)] [(2000, .dead),(2001, .dead)] (.tup [.nilS, .nilS, .int e]) [(2000, .dead),(2001, .dead)]
theorem Zhj (x:Int):x.fdiv (2^min 1 64)=x/2:=by
 have:(2:Int)^min 1 64=2:=by decide
 rw[this,Ci _ (by decide)]
theorem Balanced_ok (g:Net)(a b f f2:List Int)(h:SolveOk g a f)(h2:SolveOk (Zpx g) b f2)(hl:g.2.length<=1000000)(hn:a.length<=1000000)(ha:fromTo a 1099511627776)(hb:fromTo b 1099511627776):
  Zag Tryz.prog 58 [.d (nD g)] [(2000, .dead)] (.tup [.ref 2000 1 0 a.length a.length, .int 0]) [(2000, .row 1 (intsL (midF a b)))]:=by
 obtain⟨m,l⟩:=g;obtain⟨n,hmn,hal,hfl,h⟩:=h;obtain⟨n2,hmn2,hbl,hfl2,h2⟩:=h2;dsimp only at hmn hl hfl h;simp only[Zpx]at hmn2 hfl2 h2;rw[uD]at hfl2 h2;obtain rfl:n2=n:=by omega
 subst hmn;rw[hal];have htm:(List.map bdD (l.map mirB)).take l.length=List.map bdD (l.map mirB):=uG (by simp);have hbd:ZbN (l.map mirB)= .sl (List.map bdD (l.map mirB)):=rfl;refine kM Tryz.func58 ?_;intro B X w0;refine kw1 kP kc0 (kc1 (kmc [(2000,900),(2001,901)] h)) ?_;refine Zas _ (Zcy 7 1 902 4 rfl rfl rfl) ?_;refine Zaf (λ(k:Nat)=>k<=l.length) (λ k=>[(1, .ptr 1 0 0 0),(4, .ref 900 1 0 n2 n2),(7, .ptr 7 0 0 0),(31, .d (ZbN l)),(32, .int l.length),(33, .int k)]) (λ k=>[(1, .cells [.int n2, .d (ZbN l)]),(900, .row 1 (intsL a)),(7, .cells [.int n2, .ref 902 4 0 k k]),(902, .row 4 (((l.map mirB).take k).map bdD))]) (λ k=>l.length-k) 0 ?_ ?_ ?_
 ·exact uI _
 ·exact kN kc0 []
 ·intro k hk;rcases uF k l.length with hlt|hge
  ·obtain⟨p,hp⟩:=Zad hlt;have hm:(l.map mirB)[k]? =some (mirB p):=by rw[uJ,hp];rfl
   have hs:=ZaB hm;have hlen:((l.map mirB).take k).length=k:=by rw[uS,uD];omega
   have htk:(List.map bdD ((l.map mirB).take k)).take k=List.map bdD ((l.map mirB).take k):=uG (by simp;omega);refine kw1 kO (kc3 hp hlen htk) kc0 ?_;refine⟨k+1,?_,kN (kc2 hs @uU.{0,0}) [(902,49)],?_⟩
   ·omega
   ·omega
  ·have:k=l.length:=by omega
   subst this;have hll:(l.map mirB).take l.length=l.map mirB:=uG (by simp)
   try dsimp only
   rw[hll];refine Zas _ (Zde 902 4 _ rfl (ZcW _ rfl) (by decide)) ?_;refine kw1 kP (kc3 @qU.{0} htm @uD.{0,0}) (kc1 (kmc [(2000,903),(2001,904)] h2)) ?_;refine Zaf (λ(k:Nat)=>k<=n2) (λ k=>[(1, .ptr 1 0 0 0),(4, .ref 900 1 0 n2 n2),(10, .ref 903 1 0 n2 n2),(12, .int (topN a b k)),(62, .int n2),(63, .int k)]) (λ k=>[(1, .cells [.int n2, .d (ZbN l)]),(900, .row 1 (intsL a)),(903, .row 1 (intsL b))]) (λ k=>n2-k) 0 ?_ ?_ ?_
   ·exact uI _
   ·exact kN kc0 []
   ·intro k hk;rcases uF k n2 with hlt|hge2
    ·have ga:=ZaK (r:=a) (i:=k) (by omega);have gb:=ZaK (r:=b) (i:=k) (by omega);refine kw1 kO (kc5 ga gb hal hbl @ZfK) kc0 ?_;refine⟨k+1,?_,kN (kc1 @topN.eq_1) [],?_⟩
     ·omega
     ·omega
    ·refine kw1 kP kc0 kc0 ?_;have:k=n2:=by omega
     subst this;have htop:=ZnD ha hb k;have hgt:=λ j (h:j<k)=>ZoU (a:=a) (b:=b) h
     have htt:topN a b a.length=topN a b k:=by rw[hal]
     generalize topN a b k=t at htop hgt htt|-;refine Zaf (λ(u:Nat)=>u<=k) (λ u=>[(4, .ref 900 1 0 k k),(10, .ref 903 1 0 k k),(12, .int t),(14, .ref 79 1 0 k k),(15, .int (Zbl (halfAt a b t) u)),(81, .int k),(82, .int u)]) (λ u=>[(900, .row 1 (intsL a)),(903, .row 1 (intsL b)),(79, .row 1 ((Za0 (halfAt a b t) k u).map D.int))]) (λ u=>k-u) 0 ?_ ?_ ?_
     ·exact uI _
     ·exact kN (kc1 @ZhK) []
     ·intro u hu;have hlow:=Zsj (by omega) (λ v=>Zmo (v:=v) ha hb htop) u;rcases uF u k with huk|hug
      ·have ga:=ZaK (r:=a) (i:=u) (by omega);have gb:=ZaK (r:=b) (i:=u) (by omega);have g1:=ha u;have g2:=hb u;have g3:=hgt u huk;have hh:=Zmo (v:=u) ha hb htop;have hdef:(at0 a u+t-at0 b u)/2=halfAt a b t u:=rfl;have hlen:=Zdh (halfAt a b t) k u;have hst:=ZhE (g:=halfAt a b t) huk;have hgk:((Za0 (halfAt a b t) k u).set u (halfAt a b t u))[u]? =some (halfAt a b t u):=jS (by omega);have hgk2:((List.map D.int (Za0 (halfAt a b t) k u)).set u (D.sc (.int .i64 (halfAt a b t u))))[u]? =some (D.sc (.int .i64 (halfAt a b t u))):=jS (by rw[uD];omega);have gf:(Za0 (halfAt a b t) k u)[u]? =_:=ZeS huk;rcases gT (u=0\/halfAt a b t u<Zbl (halfAt a b t) u)with c|c
       ·have hlo:Zbl (halfAt a b t) (u+1)=halfAt a b t u:=by rw[Zbl,if_pos c]
        refine kw kO (kc8 ga gb hal hbl hlen gf Zhj (kc4 hdef hgk hgk2 @yI.{0})) kc0 ?_
        repeat' first|exact True.intro|refine Bn.mk ?_ ?_|intro hc
        all_goals
         refine⟨u+1,?_,kN (kc3 @hst.symm hlo @yP.{0,0}) [],?_⟩
         ·omega
         ·omega
       ·have hlo:Zbl (halfAt a b t) (u+1)=Zbl (halfAt a b t) u:=by rw[Zbl,if_neg c]
        refine kw1 kO (kc8 ga gb hal hbl hlen gf Zhj (kc4 hdef hgk hgk2 @yI.{0})) kc0 ?_
        all_goals
         refine⟨u+1,?_,kN (kc3 @hst.symm hlo @yP.{0,0}) [],?_⟩
         ·omega
         ·omega
      ·refine kw1 kP kc0 kc0 ?_;have:u=k:=by omega
       subst this;have hrow:Za0 (halfAt a b t) u u=Zd9 (halfAt a b t) (λ v=>halfAt a b t v-Zbl (halfAt a b t) u) u 0:=by
        rw[Zhz,ZBm];rfl
       have hwl:Zbl (halfAt a b t) a.length=Zbl (halfAt a b t) u:=by rw[hal]
       rw[hrow];generalize Zbl (halfAt a b t) u=w at hlow hwl|-;refine Zaf (λ(v:Nat)=>v<=u) (λ v=>[(14, .ref 79 1 0 u u),(15, .int w),(116, .int u),(117, .int v)]) (λ v=>[(79, .row 1 ((Zd9 (halfAt a b t) (λ v=>halfAt a b t v-w) u v).map D.int))]) (λ v=>u-v) 0 ?_ ?_ ?_
       ·exact uI _
       ·exact kN kc0 []
       ·intro v hv;have hlen:=ZkR (halfAt a b t) (λ v=>halfAt a b t v-w) u v;rcases uF v u with hvu|hvg
        ·have hg:(Zd9 (halfAt a b t) (λ v=>halfAt a b t v-w) u v)[v]? =some (halfAt a b t v):=by rw[Zm0 hvu,if_neg (by omega)]
         have hst:=ZxP (h:=halfAt a b t) (g:=λ v=>halfAt a b t v-w) hvu;have hh:=Zmo (v:=v) ha hb htop;refine kw1 kO (kc2 hg hlen) kc0 ?_;refine⟨v+1,?_,kN (kc2 @hst.symm @yP.{0,0}) [],?_⟩
         ·omega
         ·omega
        ·refine kw1 kP kc0 kc0 ?_;have:v=u:=by omega
         subst this;have e:midF a b=ZhC (λ x=>halfAt a b t x-w) v:=by simp only[midF,ZhC,htt,hwl];rw[hal]
         refine kR kc0 [(2000,79)] [(2, .ref 2000 1 0 _ _),(3, .int 0)] [(2000, .row 1 _)] ?_;refine ZaX ?_;exact⟨⟨_,rfl,rfl,rfl,trivial⟩,uM.2 ⟨Znm (by rw[ZyW,e]),yB _⟩⟩
theorem solve_of (n:Nat)(l:List Bd)(R:Nat)(a f:List Int)(hg:nOk (n,l)=true)(h0:(Zb0 n (Zaw l (zeros l)) (ZbY n)).isSome=true)
  (hc:ZfI n l R (zeros l) (ZbC l n l.length)=some f)(hfl:f.length=l.length)(hW:(Zb0 n (Zaw l f) (ZbY n)).map Ze7=some a)(hal:a.length=n):SolveOk (n,l) a f:=by
 obtain⟨W0,h0⟩:=Option.isSome_iff_exists.1 h0;cases h:Zb0 n (Zaw l f) (ZbY n)with
 |none=>rw[h]at hW;cases hW
 |some W=>
  rw[h]at hW;simp only[yY,yC]at hW;subst hW;exact⟨n,rfl,hal,hfl,Zkr n l f R W0 W hg h0 hc hfl h (by simpa[Ze7]using hal)⟩
end Go.Proofs.YtjjbhjnpeenbkaaGreatDoor.Sx
