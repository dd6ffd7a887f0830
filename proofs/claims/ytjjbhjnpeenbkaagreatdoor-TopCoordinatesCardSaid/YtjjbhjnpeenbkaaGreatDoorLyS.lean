/- What the laws' arguments are as data. -/
import Derived.Test.YtjjbhjnpeenbkaaGreatDoorAlC
import Derived.Test.YtjjbhjnpeenbkaaGreatDoorSo
import Derived.Test.YtjjbhjnpeenbkaaGreatDoorPSMerge
import Derived.Lay
import Derived.Test.YtjjbhjnpeenbkaaGreatDoorBaF
set_option linter.unusedSimpArgs false
set_option linter.unusedVariables false
set_option maxHeartbeats 16000000
namespace Go.Proofs.YtjjbhjnpeenbkaaGreatDoor.Gr
open Go Go.PS Go.Proofs Go.Proofs.YtjjbhjnpeenbkaaGreatDoor
set_option maxRecDepth 100000
theorem ZiN {n:Nat}{cs:List D}(h:Zba Tryz.prog (n+1) 9 cs):∃s:ByteArray,cs=[Zbg s]:=by
 have hu:Tryz.prog.underlying 9=some .string:=by kernel_rfl
 simp only[Zba,hu]at h;exact h
theorem Zwj {n:Nat}{cs:List D}(h:Zba Tryz.prog (n+1) 4 cs):∃b:Bool,cs=[.bool b]:=by
 have hu:Tryz.prog.underlying 4=some .bool:=by kernel_rfl
 simp only[Zba,hu]at h;exact h
theorem Zwu {n:Nat}{cs:List D}(h:Zba Tryz.prog (n+3) 64 cs):∃l:List Pt,cs=[.sl (l.map ptD)]:=by
 obtain⟨l,rfl,hl⟩:=ZkB (e:=92) (by kernel_rfl) h;obtain⟨ys,rfl⟩:=ZhY (f:=ptD) (l:=l) (λ d hd=>by
  obtain⟨es,rfl,_,he⟩:=hl d hd;obtain⟨_,_,rfl,h1,_,_,rfl,h2,rfl⟩:=Zit (ts:=[9,3]) (by kernel_rfl) he;obtain⟨a,rfl⟩:=ZiN h1;obtain⟨b,rfl⟩:=Zc0 h2;rw[Zvn];exact⟨⟨a,b⟩,rfl⟩)
 exact⟨ys,rfl⟩
theorem Zv0 {n:Nat}{cs:List D}(h:Zba Tryz.prog (n+5) 22 cs):∃l:List Nd,cs=[.sl (l.map ndD)]:=by
 obtain⟨l,rfl,hl⟩:=ZkB (e:=66) (by kernel_rfl) h;obtain⟨ys,rfl⟩:=ZhY (f:=ndD) (l:=l) (λ d hd=>by
  obtain⟨es,rfl,_,he⟩:=hl d hd;obtain⟨_,_,rfl,h1,_,_,rfl,h2,_,_,rfl,h3,_,_,rfl,h4,_,_,rfl,h5,_,_,rfl,h6,rfl⟩:=Zit (ts:=[9,9,3,3,3,64]) (by kernel_rfl) he;obtain⟨a,rfl⟩:=ZiN h1;obtain⟨b,rfl⟩:=ZiN h2;obtain⟨c,rfl⟩:=Zc0 h3;obtain⟨d,rfl⟩:=Zc0 h4;obtain⟨e,rfl⟩:=Zc0 h5;obtain⟨f,rfl⟩:=Zwu h6;rw[ZCy];exact⟨⟨a,b,c,d,e,f⟩,rfl⟩)
 exact⟨ys,rfl⟩
theorem ZxY {n:Nat}{cs:List D}(h:Zba Tryz.prog (n+3) 23 cs):∃l:List Ed,cs=[.sl (l.map edD)]:=by
 obtain⟨l,rfl,hl⟩:=ZkB (e:=61) (by kernel_rfl) h;obtain⟨ys,rfl⟩:=ZhY (f:=edD) (l:=l) (λ d hd=>by
  obtain⟨es,rfl,_,he⟩:=hl d hd;obtain⟨_,_,rfl,h1,_,_,rfl,h2,_,_,rfl,h3,_,_,rfl,h4,_,_,rfl,h5,_,_,rfl,h6,_,_,rfl,h7,rfl⟩:=Zit (ts:=[3,3,3,3,9,3,3]) (by kernel_rfl) he;obtain⟨a,rfl⟩:=Zc0 h1;obtain⟨b,rfl⟩:=Zc0 h2;obtain⟨c,rfl⟩:=Zc0 h3;obtain⟨d,rfl⟩:=Zc0 h4;obtain⟨e,rfl⟩:=ZiN h5;obtain⟨f,rfl⟩:=Zc0 h6;obtain⟨g,rfl⟩:=Zc0 h7;rw[ZvY];exact⟨⟨a,b,c,d,e,f,g⟩,rfl⟩)
 exact⟨ys,rfl⟩
theorem ZAU {n:Nat}{cs:List D}(h:Zba Tryz.prog (n+3) 24 cs):∃l:List Cl,cs=[.sl (l.map clD)]:=by
 obtain⟨l,rfl,hl⟩:=ZkB (e:=94) (by kernel_rfl) h;obtain⟨ys,rfl⟩:=ZhY (f:=clD) (l:=l) (λ d hd=>by
  obtain⟨es,rfl,_,he⟩:=hl d hd;obtain⟨_,_,rfl,h1,_,_,rfl,h2,rfl⟩:=Zit (ts:=[9,3]) (by kernel_rfl) he;obtain⟨a,rfl⟩:=ZiN h1;obtain⟨b,rfl⟩:=Zc0 h2;rw[ZA2];exact⟨⟨a,b⟩,rfl⟩)
 exact⟨ys,rfl⟩
theorem ZBR {x:D}(h:ZiC Tryz.prog 26 x):∃g:Gph,x=ZbU g:=by
 obtain⟨cs,h,rfl⟩:=h;obtain⟨_,_,rfl,h1,_,_,rfl,h2,_,_,rfl,h3,_,_,rfl,h4,_,_,rfl,h5,rfl⟩:=Zit (ts:=[9,4,22,23,24]) (by kernel_rfl) h;obtain⟨a,rfl⟩:=ZiN h1;obtain⟨b,rfl⟩:=Zwj h2;obtain⟨c,rfl⟩:=Zv0 h3;obtain⟨d,rfl⟩:=ZxY h4;obtain⟨e,rfl⟩:=ZAU h5;rw[Zt4];exact⟨⟨a,b,c,d,e⟩,rfl⟩
theorem ZzU {x:D}(h:ZiC Tryz.prog 28 x):∃o:Opt,x=Zgb o:=by
 obtain⟨cs,h,rfl⟩:=h;obtain⟨_,_,rfl,h1,_,_,rfl,h2,_,_,rfl,h3,_,_,rfl,h4,_,_,rfl,h5,rfl⟩:=Zit (ts:=[3,3,3,3,3]) (by kernel_rfl) h;obtain⟨a,rfl⟩:=Zc0 h1;obtain⟨b,rfl⟩:=Zc0 h2;obtain⟨c,rfl⟩:=Zc0 h3;obtain⟨d,rfl⟩:=Zc0 h4;obtain⟨e,rfl⟩:=Zc0 h5;rw[ZwP];exact⟨⟨a,b,c,d,e⟩,rfl⟩
open Go.Cy (NA InN ZdR ZcQ)
attribute [local irreducible] Zac wpG Zaa Zag
theorem Zme {g:Gph}(hs:ZbF g):Sx.nOk (Zca g)=true:=by
 have hbl:=Ziy g;have hbi:=Zz9 hs.ok;have h256:=(Zf5 hs.ok).1;have hn8:=hs.n8;rw[Zca];generalize ZbG g=l at*;have hlk:=Zij l l.length;have hbd:=ZhT (g:=g) (l:=l) (uH _);simp only[Sx.nOk,uK,uE,yD,yR];refine⟨⟨by omega,by omega,by rw[hbd];omega⟩,λ b hb=>?_⟩;rw[Zbk,uG (uH _)]at hb;obtain⟨i,hi,rfl⟩:=uN.1 hb;obtain⟨q1,q2⟩:=Zlm hi;obtain⟨a,ha⟩:=Zad q1;obtain⟨e,he⟩:=Zad (l:=g.es) (k:=i) (by omega);rw[Zfg,ha,uE]at q2;have h1:=hbi a (uA ha);have h2:=Zmr hs.ok he;rw[ZkC,ha,he];simp[Sx.bdIn];omega
theorem Zva {g:Gph}(hs:ZbF g):Sx.SolveNo (Zca g) 9\/∃r f,Sx.SolveOk (Zca g) r f/\Sx.Best g.ns.length (Zca g).2 r f:=by
 have h:=Zme hs;by_cases hp:∃p,Sx.PotB (Zca g).2 (Sx.zeros (Zca g).2) p
 ·exact .inr (Sx.solve_best (n:=g.ns.length) (l:=(Zca g).2) h hp)
 ·exact .inl (Sx.solve_none (n:=g.ns.length) (l:=(Zca g).2) h hp)
theorem Zt7 {o:Opt}(h:okO o=true):0<=o.rd/\o.rd<=100:=by
 simp only[okO,ZfX,uK,uE]at h;omega
theorem Zxx {g:Gph}(o:Opt)(hm:Mod g)(h8:g.ns.length<=8)(hl:g.es.length<=100):(∃lv n e,Zaa Tryz.prog 13 [ZbU g,Zgb o] (.tup [lvD lv, .int n, .int e])/\e≠0)\/
  ∃r f n,ZbF g/\okO o=true/\Sx.SolveOk (Zca g) r f/\Sx.Best g.ns.length (Zca g).2 r f/\(ZaG (pGr g) r).2=0/\Zaq (ZaG (pGr g) r).1=true/\
   Zaa Tryz.prog 13 [ZbU g,Zgb o] (.tup [lvD (ZcF (ZbH (ZaG (pGr g) r).1 o.rd.toNat)), .int n, .int 0]):=by
 by_cases hv:Zdw g=0
 ·rcases ho:okO o with _|_
  ·exact .inl ⟨_,_,_,ZCP hm hv ho,by decide⟩
  ·have hs:ZbF g:=⟨hm,hv,h8⟩;rcases Zva hs with h|⟨r,f,hS,hB⟩
   ·exact .inl ⟨_,_,_,ZtH hs ho h (by decide),by decide⟩
   ·have h:=Zt6 hs hl ho hS;rw[Zjz]at h;by_cases hb:(ZaG (pGr g) r).2=0
    ·rw[if_pos hb,ZhG]at h;by_cases c:Zaq (ZaG (pGr g) r).1=true/\0<=o.rd/\o.rd<=100
     ·rw[if_pos c]at h;exact .inr ⟨r,f,_,hs,rfl,hS,hB,hb,c.1,h⟩
     ·rw[if_neg c]at h;exact .inl ⟨_,_,_,h,by decide⟩
    ·rw[if_neg hb]at h;exact .inl ⟨_,_,_,h,by decide⟩
 ·exact .inl ⟨_,_,_,ZwF o hm hv,hv⟩
end Go.Proofs.YtjjbhjnpeenbkaaGreatDoor.Gr
namespace Go.Proofs.YtjjbhjnpeenbkaaGreatDoor.Gr
open Go Go.PS Go.Proofs Go.Proofs.YtjjbhjnpeenbkaaGreatDoor Go.Proofs.YtjjbhjnpeenbkaaGreatDoor.Al
set_option maxRecDepth 100000
attribute [local irreducible] Zac wpG Zaa Zag
theorem Zqr (b:Lv):∀k,(Zdz b k).1=b.1
 |0=>rfl
 |k+1=>Zqr b k
theorem ZrF (b:Lv)(n:Nat):∀k,(upB b n k).1=b.1
 |0=>rfl
 |k+1=>ZrF b n k
theorem Zwz (b:Lv):(swB b).1=b.1:=(ZrF _ _ _).trans (Zqr _ _)
theorem Zqh (a:Lv):∀k,(Zdf a k).1=a.1
 |0=>rfl
 |k+1=>(Zwz _).trans (Zqh a k)
theorem Zqz (a:Lv):∀k,(ZbH a k).1=a.1
 |0=>rfl
 |k+1=>by
  rw[ZbH];split
  ·exact Zqh a (k+1)
  ·exact Zqz a k
theorem Zyx :∀(f:Nat) (b:Lv) (i:Nat),(ZbQ f b i).1=b.1:=by
 intro f
 induction f with
 |zero=>intro b i;rfl
 |succ f ih=>
  intro b i;rw[ZbQ];split
  ·split
   ·exact(ih _ _).trans rfl
   ·exact ih _ _
  ·rfl
def Zjl (g:Gph):List Int:=g.ns.map (·.w)
theorem Zww (g:Gph)(hl:g.ns.length<=1000):Zaa Tryz.prog 16 [ZbU g] (Zab (Zjl g)):=by
 obtain⟨wk,hwk⟩:∃wk:Nat->List Int,∀k,wk k=(g.ns.take k).map (·.w):=⟨_,λ _=>rfl⟩;have hwl:∀k,k<=g.ns.length->(wk k).length=k:=λ k h=>by rw[hwk,uD,uS];omega
 refine kE Tryz.func16 ?_;intro hat B X w0;refine kw1 kO kc0 kc0 ?_;refine Zas _ (ZdV 3 901 1 rfl rfl) ?_;refine Zaf (λ(k:Nat)=>k<=g.ns.length) (λ k=>[(1, .ptr 1 0 0 0),(3, .ref 901 1 0 (wk k).length (wk k).length),(4, .int k)]) (λ k=>[(1, .cells [.d (Zbg g.nm), .d (.bool g.dir), .d (.sl (g.ns.map ndD)), .d (.sl (g.es.map edD)), .d (.sl (g.cs.map clD))]),(901, .row 1 ((wk k).map D.int))]) (λ k=>g.ns.length-k) 0 ?_ ?_ ?_
 ·exact uI _
 ·rw[show wk 0=[] by rw[hwk];rfl];exact kN kc0 []
 ·intro k hk;have h1:=hwl k hk;rcases uF k g.ns.length with hlt|hge
  ·obtain⟨x,hx⟩:=Zad hlt;have e1:wk (k+1)=wk k++[x.w]:=by rw[hwk,hwk,ZaB hx,uU];rfl
   refine kw1 kO (kc2 hx @Zat) kc0 ?_;refine⟨k+1,?_,kN (kc6 e1 @uC.{0} @yT.{0} @uU.{0,0} @uV.{0,0} @yS.{0,0}) [(901,20)],?_⟩
   ·exact hlt
   ·omega
  ·obtain rfl:k=g.ns.length:=by omega
   refine kw1 kO kc0 kc0 ?_;exact ZcK (o:=901) rfl rfl (by simp) (by rw[uG (by simp),hwk,yF];rfl)
theorem ZwI {g:Gph}(h:Zdw g=0){k:Nat}{n:Nd}(hn:g.ns[k]? =some n):1<=n.w/\n.w<=1048576/\1<=n.h/\n.h<=1048576:=by
 have h1:=ZnA (Zf5 h).2.1 k (uB.1 hn).1;rw[ZoY hn]at h1;split at h1
 ·cases h1
 ·split at h1
  ·cases h1
  ·split at h1
   ·contradiction
   ·split at h1
    ·cases h1
    ·rename_i hq;have e1:Zd5 n.w=true:=by cases hw:Zd5 n.w<;>simp_all
     have e2:Zd5 n.h=true:=by cases hw:Zd5 n.h<;>simp_all
     simp only[Zd5,uK,uE]at e1 e2;omega
theorem Zv4 {o:Opt}(h:okO o=true):(0<=o.nsep/\o.nsep<=1048576)/\0<=o.rsep/\o.rsep<=1048576:=by
 simp only[okO,ZfX,uK,uE]at h;omega
theorem ZwU {g:Gph}{o:Opt}{r:List Int}(hs:ZbF g)(ho:okO o=true)(hb:(ZaG (pGr g) r).2=0)(hv:Zaq (ZcF (ZbH (ZaG (pGr g) r).1 o.rd.toNat))=true):
  VA (ZcF (ZbH (ZaG (pGr g) r).1 o.rd.toNat)) (Zjl g) o.nsep:=by
 refine VA.of ?_;have h1:=Zv4 ho;have hn:(ZcF (ZbH (ZaG (pGr g) r).1 o.rd.toNat)).1=g.ns.length:=by
  rw[ZcF,Zyx,Zqz,(built hb).eq];rfl
 rw[Zb7,hv,hn,szB,yN (by rw[Zjl,uD]),yN (by omega),show(Zjl g).any (λ w=> !szB w)=false from ?_]
 ·rfl
 ·rw[yR];intro w hw;obtain⟨n,hm,rfl⟩:=uN.1 hw;obtain⟨k,hk⟩:=jC.1 hm;have:=ZwI hs.ok hk;simp[szB];omega
theorem ZA3 (g:Gph)(o:Opt)(other:List Int):Zaa Tryz.prog 4 [ZbU g,Zgb o,Zab other] (.bool true):=by
 have h9:=Zyk;have h1:=Zue g 7 9 (by decide) (by decide);rcases c1:ZfM g 7 9 with _|_<;>rw[c1]at h1
 ·refine kE Tryz.func4 ?_;intro hat B X w0;refine kw1 kO kc0 (kc2 h1 h9) ?_;exact Zaj rfl
 ·obtain⟨f1,f2,f3,f4⟩:=ZoI c1;by_cases c2:3<o.rd/\o.rd<=100
  ·obtain⟨c2,c3⟩:=c2;refine kE Tryz.func4 ?_;intro hat B X w0;refine kw1 kO (kc2 c2 c3) (kc2 h1 h9) ?_;exact Zaj rfl
  ·by_cases c4:40<other.length
   ·refine kE Tryz.func4 ?_;intro hat B X w0;refine kw kO (kc1 c4) (kc2 h1 h9) ?_
    repeat' first|exact True.intro|refine Bn.mk ?_ ?_|intro hc
    all_goals first|exact Zaj rfl|(exfalso;omega)
   ·rcases Zxx o f3 (by omega) (by omega)with⟨lv,n,e,h2,he⟩|⟨r,f,n,hs,ho,hS,hB,hb,hv,h2⟩
    ·obtain⟨lm,ls,ar,cs⟩:=lv;refine kE Tryz.func4 ?_;intro hat B X w0;refine kw kO (kc1 he) (kc3 h1 h2 h9) ?_
     repeat' first|exact True.intro|refine Bn.mk ?_ ?_|intro hc
     all_goals first|exact Zaj rfl|(exfalso;omega)
    ·have hpl:=ZpE (g:=g);have c3:¬3<o.rd:=by have:=Zt7 ho;omega
     obtain⟨q1,q2⟩:=Zql hb (by omega);have hKb:=Znl hv q1 o.rd.toNat;obtain⟨hK,_,_⟩:=ZBv hKb;have hV:=ZwU hs ho hb hK.ok;have h3:=Zww g (by omega);generalize Zjl g=ws at*;generalize ZcF (ZbH (ZaG (pGr g) r).1 o.rd.toNat)=z at*;have hza:z.2.2.1.length<=700:=by rw[hK.arcs];exact q2
     obtain⟨A,f,b,f2,_,_,hM⟩:=ZtS hV hza;generalize Sx.midF A b=M at hM;have hml:M.length=tot z.2.1+z.2.2.1.length:=hM.len;have htt:=hV.tt;have s1:=Zkr z ws o.nsep M hK.wd hV (by omega) hM.calls (by omega) hM.bd;have s2:=Zxq z ws o.nsep (Zed M (tot z.2.1)) hK.wd;rw[ZCv hV hM]at s2;have s3:=ZpW z ws o.nsep other hK.wd;have s4:=ZnL z (Zed M (tot z.2.1)) hK.wd (by omega);have s5:=ZnL z other hK.wd (by omega);have hle:=λ hc=>ZCd hV hM (X:=other) hc
     generalize Zed M (tot z.2.1)=y at*;generalize ZgO z y=k1 at*;generalize ZgO z other=k2 at*;generalize Zf0 z ws o.nsep other=c5 at*;obtain⟨zn,zl,za,zc⟩:=z;by_cases e5:c5=0
     ·have hk:=hle e5;subst e5;refine kE Tryz.func4 ?_;intro hat B X w0
      repeat' first|refine Zbt rfl ?_|refine ZaX ?_|refine Zk6 10 rfl (λ _=>false) Zcf ?_|(refine rc (h1) rfl ?_ ?_;(· first|rfl|simp(disch:=omega) only[go_sem,simprocAttr,c3,c4]))|(refine rc (h2) rfl ?_ ?_;(· first|rfl|simp(disch:=omega) only[go_sem,simprocAttr,c3,c4]))|(refine rc (h3) rfl ?_ ?_;(· first|rfl|simp(disch:=omega) only[go_sem,simprocAttr,c3,c4]))|(refine rc (s1) rfl ?_ ?_;(· first|rfl|simp(disch:=omega) only[go_sem,simprocAttr,c3,c4]))|(refine rc (s2) rfl ?_ ?_;(· first|rfl|simp(disch:=omega) only[go_sem,simprocAttr,c3,c4]))|(refine Zbv rfl rfl (λ hc=>?_) (λ hc=>?_)<;>try simp only[hcL]at hc)|(refine Zbx _ rfl rfl (λ hc=>?_) (λ hc=>?_)<;>(try simp only[hcL]at hc)<;>try omega)|simp(disch:=omega) only[go_sem,simprocAttr,c3,c4]|apply And.intro|omega|decide+kernel
      refine kw1 kO (kc1 hk) (kc4 s3 s4 s5 h9) ?_;exact Zaj rfl
     ·refine kE Tryz.func4 ?_;intro hat B X w0
      repeat' first|refine Zbt rfl ?_|refine ZaX ?_|refine Zk6 10 rfl (λ _=>false) Zcf ?_|(refine rc (h1) rfl ?_ ?_;(· first|rfl|simp(disch:=omega) only[go_sem,simprocAttr,c3,c4]))|(refine rc (h2) rfl ?_ ?_;(· first|rfl|simp(disch:=omega) only[go_sem,simprocAttr,c3,c4]))|(refine rc (h3) rfl ?_ ?_;(· first|rfl|simp(disch:=omega) only[go_sem,simprocAttr,c3,c4]))|(refine rc (s1) rfl ?_ ?_;(· first|rfl|simp(disch:=omega) only[go_sem,simprocAttr,c3,c4]))|(refine rc (s2) rfl ?_ ?_;(· first|rfl|simp(disch:=omega) only[go_sem,simprocAttr,c3,c4]))|(refine Zbv rfl rfl (λ hc=>?_) (λ hc=>?_)<;>try simp only[hcL]at hc)|(refine Zbx _ rfl rfl (λ hc=>?_) (λ hc=>?_)<;>(try simp only[hcL]at hc)<;>try omega)|simp(disch:=omega) only[go_sem,simprocAttr,c3,c4]|apply And.intro|omega|decide+kernel
      refine kw1 kO (kc1 e5) (kc4 s3 s4 s5 h9) ?_;exact Zaj rfl
end Go.Proofs.YtjjbhjnpeenbkaaGreatDoor.Gr
