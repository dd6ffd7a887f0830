/- Tactics that stand as default proofs of premises: a walk in one word (printed by genmac.py). -/
import Derived.Test.YtjjbhjnpeenbkaaGreatDoorPSFam
import Derived.KernelRfl
import Derived.ProofKit
import Derived.Carry
import Derived.Deep.Slices
import Derived.SizedLaws
import Derived.OpenShut
set_option linter.unusedSimpArgs false
set_option linter.unusedVariables false
set_option maxHeartbeats 16000000
namespace Go.PS
open Go
structure Hd (R:Prop):Prop where
 out:R
structure Bn (A B:Prop):Prop where
 l:A
 r:B
structure MC (σ:List (Nat×Nat))(p:Prop):Prop where
 out:p
structure FC (σ:List (Nat×Nat))(p:Prop):Prop where
 out:p
structure CC (ds caps:List D)(p:Prop):Prop where
 out:p
structure Ow (own:Nat->Bool)(b:Bool):Prop where
 out:True
theorem kO :Ow (λ _=>false) true:=⟨trivial⟩
theorem kP :Ow (λ _=>false) false:=⟨trivial⟩
theorem kow (own:Nat->Bool){b:Bool}:Ow own b:=⟨trivial⟩
section
variable {P:Program}{B X:Nat->Prop}{w0:W0}{n:Nat}{Q:Exit->St->Prop}{S:St}{own:Nat->Bool}{b:Bool}
theorem Zp8 (_o:Ow own true)(h:Q .ret S):PW P B X w0 n .ret Q S:=Za1 h
theorem Zp7 (_o:Ow own b)(ZcC:P.follows .mixedOrders=true){id:Nat}{ops:Array Oper}{draw:Bool}
  (h:Zab P own ops.toList ops.toList S [] λ S' fs=>Zhx n ops draw fs.reverse=true/\Q .normal S'):PW P B X w0 n (.region id ops draw) Q S:=Zf0 own ZcC h
end
structure Ix (n:Nat):Prop where
 out:True
theorem kcu {a b c:Prop}(h:a->b->c):a/\b->c:=λ q=>h q.1 q.2
theorem kix (n:Nat):Ix n:=⟨trivial⟩
theorem kem {n:Nat}(_:Ix n)(i:Nat):i=n\/¬i=n:=gU _
theorem kc0 :True:=trivial
theorem kcc (ds caps:List D){p:Prop}(h:p):CC ds caps p:=⟨h⟩
theorem kfc (σ:List (Nat×Nat)){p:Prop}(h:p):FC σ p:=⟨h⟩
theorem kmc (σ:List (Nat×Nat)){p:Prop}(h:p):MC σ p:=⟨h⟩
theorem kc1 {A0:Prop}(x0:A0):A0/\True:=⟨x0,trivial⟩
theorem kc2 {A0 A1:Prop}(x0:A0)(x1:A1):A0/\A1/\True:=⟨x0,x1,trivial⟩
theorem kc3 {A0 A1 A2:Prop}(x0:A0)(x1:A1)(x2:A2):A0/\A1/\A2/\True:=⟨x0,x1,x2,trivial⟩
theorem kc4 {A0 A1 A2 A3:Prop}(x0:A0)(x1:A1)(x2:A2)(x3:A3):A0/\A1/\A2/\A3/\True:=⟨x0,x1,x2,x3,trivial⟩
theorem kc5 {A0 A1 A2 A3 A4:Prop}(x0:A0)(x1:A1)(x2:A2)(x3:A3)(x4:A4):A0/\A1/\A2/\A3/\A4/\True:=⟨x0,x1,x2,x3,x4,trivial⟩
theorem kc6 {A0 A1 A2 A3 A4 A5:Prop}(x0:A0)(x1:A1)(x2:A2)(x3:A3)(x4:A4)(x5:A5):A0/\A1/\A2/\A3/\A4/\A5/\True:=⟨x0,x1,x2,x3,x4,x5,trivial⟩
theorem kc7 {A0 A1 A2 A3 A4 A5 A6:Prop}(x0:A0)(x1:A1)(x2:A2)(x3:A3)(x4:A4)(x5:A5)(x6:A6):A0/\A1/\A2/\A3/\A4/\A5/\A6/\True:=⟨x0,x1,x2,x3,x4,x5,x6,trivial⟩
theorem kc8 {A0 A1 A2 A3 A4 A5 A6 A7:Prop}(x0:A0)(x1:A1)(x2:A2)(x3:A3)(x4:A4)(x5:A5)(x6:A6)(x7:A7):A0/\A1/\A2/\A3/\A4/\A5/\A6/\A7/\True:=⟨x0,x1,x2,x3,x4,x5,x6,x7,trivial⟩
section calls
variable {P:Program}{own:Nat->Bool}{all rest:List Oper}{S:St}{fs:List Za9}{K:St->List Za9->Prop}{dst:Option Nat}{ty:TypeId}{pos:String}{af:Array Edge}{f:Operand}{as:Array Operand}{tys:Array TypeId}
theorem ZoQ (h:Zab P own all (⟨dst, .call ⟨.value f,as,tys⟩,ty,pos,af,none⟩::rest) S fs K):Zab P own all (⟨dst, .call ⟨.value f,as,tys⟩,ty,pos,af,none⟩::rest) S fs K:=h
theorem Zdt {σ:List (Nat×Nat)}{h:FuncId}{caps args:List PV}{M M':List (Nat×Ob)}{r:PV}(hc:MC σ (Zaf P h args M r M'))(hf:ZfI (S.ev f)=some (h,caps))
  (hk:Zab P own all rest (S.app dst ⟨r.ren (gOf σ),Zb8 (gOf σ) M',(as.toList.map S.ev++caps).flatMap (PV.refs S.objs 4)⟩) (((as.toList.map S.ev++caps).flatMap (PV.refs S.objs 4),(Zb8 (gOf σ) M').map (·.1))::fs) K)
  (hids:M'.map (·.1)=M.map (·.1):=by rfl) (hao:(args.all (PV.only (M.map (·.1)) 4))=true:=by rfl) (hMo:(M.all λ q=>q.2.only (M.map (·.1)))=true:=by rfl)
  (hro:r.only (M.map (·.1)) 4=true:=by rfl) (hMo':(M'.all λ q=>q.2.only (M.map (·.1)))=true:=by rfl) (hnd:(M.map λ q=>gOf σ q.1).Nodup:=by exact ZbH rfl)
  (hng:∀q∈M,q.2≠ .gone/\(2000<=q.1->q.2= .dead):=by(repeat' first|exact yA _|refine uK.2 ⟨⟨nofun,λ h=>by first|rfl|(simp at h;done)⟩,?_⟩)<;>fail)
  (hx:Zek S.objs (gOf σ) False (as.toList.map S.ev++caps) args:=by(repeat' first|exact trivial|refine⟨.inl rfl,?_⟩|refine⟨.inr ⟨_,rfl,rfl, .inl rfl⟩,?_⟩)<;>fail)
  (hobs:∀q∈M,S.objs (gOf σ q.1)=q.2.ren (gOf σ):=by(repeat' first|exact yA _|refine uK.2 ⟨rfl,?_⟩)<;>fail):
  Zab P own all (⟨dst, .call ⟨.value f,as,tys⟩,ty,pos,af,none⟩::rest) S fs K:=
 Zqv σ hc.out hf hids hao hMo hro hMo' hnd hng hx hobs hk
theorem Zds {σ:List (Nat×Nat)}{h:FuncId}{caps args:List PV}{M M':List (Nat×Ob)}{r:PV}(hc:FC σ (Zaf P h args M r M'))(hf:ZfI (S.ev f)=some (h,caps))
  (hk:Zab P own all rest (S.app dst ⟨r.ren (gOf σ),Zb8 (gOf σ) M',(as.toList.map S.ev++caps).flatMap (PV.refs S.objs 4)⟩) (((as.toList.map S.ev++caps).flatMap (PV.refs S.objs 4),(Zb8 (gOf σ) M').map (·.1))::fs) K)
  (hids:M'.map (·.1)=M.map (·.1):=by rfl) (hao:(args.all (PV.only (M.map (·.1)) 4))=true:=by rfl) (hMo:(M.all λ q=>q.2.only (M.map (·.1)))=true:=by rfl)
  (hro:r.only (M.map (·.1)) 4=true:=by rfl) (hMo':(M'.all λ q=>q.2.only (M.map (·.1)))=true:=by rfl) (hnd:(M.map λ q=>gOf σ q.1).Nodup:=by exact ZbH rfl)
  (hng:∀q∈M,q.2≠ .gone/\(2000<=q.1->q.2= .dead):=by(repeat' first|exact fmn|refine fmc ⟨⟨nofun,λ h=>by first|rfl|(simp at h;done)⟩,?_⟩)<;>fail)
  (hfl:ZiZ r M M':=by refine⟨rfl,?_,?_⟩<;>(repeat' first|exact fmn|refine fmc ⟨?_,?_⟩|exact trivial|exact ZtZ _|exact Zt0 _ (λ _=>rfl) _|(intro d hd c hc;simp[D.flat,D.cells]at*)))
  (hx:Zek S.objs (gOf σ) True (as.toList.map S.ev++caps) args:=by(repeat' first|exact trivial|refine⟨.inl rfl,?_⟩|refine⟨.inr ⟨_,rfl,rfl, .inr trivial⟩,?_⟩|refine⟨.inr ⟨_,rfl,(by simp(disch:=omega) only[go_sem,simprocAttr,f];done), .inr trivial⟩,?_⟩)<;>fail)
  (hobs:∀q∈M,S.objs (gOf σ q.1)=q.2.ren (gOf σ):=by(repeat' first|exact fmn|refine fmc ⟨rfl,?_⟩)<;>fail)
  (hre:((as.toList.map S.ev++caps).all λ x=>(x.refs S.objs 4).all λ o=> !(M.map λ q=>gOf σ q.1).contains o)=true:=by rfl):
  Zab P own all (⟨dst, .call ⟨.value f,as,tys⟩,ty,pos,af,none⟩::rest) S fs K:=Zxx σ hc.out hf hids hao hMo hro hMo' hnd hng hfl hx hobs hre hk
theorem Zf1 {g:FuncId}{ds args caps:List D}{r:D}(hc:CC ds caps (Zaa P g args r))(hf:S.ev f= .d (.fn g caps))(hx:(as.toList.map S.ev).mapM (toD S.objs 4)=some ds)
  (hk:Zab P own all rest (S.put dst (.d r)) (((as.toList.map S.ev).flatMap (PV.refs S.objs 4),[])::fs) K)(ha:args=ds++caps:=by rfl) (hr:(as.toList.map S.ev).flatMap (PV.refs S.objs 4)=[]\/r.flat 4=true:=by first|exact .inl rfl|exact .inr rfl):
  Zab P own all (⟨dst, .call ⟨.value f,as,tys⟩,ty,pos,af,none⟩::rest) S fs K:=Zqt r ⟨g,caps,ds,hf,hx,ha▸hc.out,hr⟩ hk
end calls
theorem kw1 {F C G A:Prop}{own:Nat->Bool}{b:Bool}(o:Ow own b)(f:F)(c:C)(r:A)(h:Ow own b->F->C->Hd A->G:=by intro o f c r0;(repeat' first|refine ZbD rfl ?_|refine Zp8 o ?_|refine Zp7 o ZcC ?_|(refine ZoQ ?_;first|(refine rc c.1 rfl ?_ ?_;(· first|rfl|simp(disch:=omega) only[go_sem,simprocAttr,qA,roomy,f]))|refine Zdt c.1 rfl ?_|refine Zds c.1 rfl ?_|(refine Zf1 c.1 rfl ?_ ?_;(· first|rfl|simp(disch:=omega) only[go_sem,simprocAttr,qA,f]))|(refine rc c.2.1 rfl ?_ ?_;(· first|rfl|simp(disch:=omega) only[go_sem,simprocAttr,qA,roomy,f]))|refine Zdt c.2.1 rfl ?_|refine Zds c.2.1 rfl ?_|(refine Zf1 c.2.1 rfl ?_ ?_;(· first|rfl|simp(disch:=omega) only[go_sem,simprocAttr,qA,f]))|(refine rc c.2.2.1 rfl ?_ ?_;(· first|rfl|simp(disch:=omega) only[go_sem,simprocAttr,qA,roomy,f]))|refine Zdt c.2.2.1 rfl ?_|refine Zds c.2.2.1 rfl ?_|(refine Zf1 c.2.2.1 rfl ?_ ?_;(· first|rfl|simp(disch:=omega) only[go_sem,simprocAttr,qA,f]))|(refine rc c.2.2.2.1 rfl ?_ ?_;(· first|rfl|simp(disch:=omega) only[go_sem,simprocAttr,qA,roomy,f]))|refine Zdt c.2.2.2.1 rfl ?_|refine Zds c.2.2.2.1 rfl ?_|(refine Zf1 c.2.2.2.1 rfl ?_ ?_;(· first|rfl|simp(disch:=omega) only[go_sem,simprocAttr,qA,f]))|(refine rc c.2.2.2.2.1 rfl ?_ ?_;(· first|rfl|simp(disch:=omega) only[go_sem,simprocAttr,qA,roomy,f]))|refine Zdt c.2.2.2.2.1 rfl ?_|refine Zds c.2.2.2.2.1 rfl ?_|(refine rc c.2.2.2.2.2.1 rfl ?_ ?_;(· first|rfl|simp(disch:=omega) only[go_sem,simprocAttr,qA,roomy,f]))|refine Zdt c.2.2.2.2.2.1 rfl ?_|refine Zds c.2.2.2.2.2.1 rfl ?_|(refine rc c.2.2.2.2.2.2.1 rfl ?_ ?_;(· first|rfl|simp(disch:=omega) only[go_sem,simprocAttr,qA,roomy,f]))|refine Zdt c.2.2.2.2.2.2.1 rfl ?_|refine Zds c.2.2.2.2.2.2.1 rfl ?_)|(refine ZbF rfl rfl (λ hq=>?_) (λ hq=>?_)<;>try simp only[hcL]at hq)|(refine ZbC _ rfl rfl (λ hq=>?_) (λ hq=>?_)<;>(try simp only[hcL]at hq)<;>try omega)|simp(disch:=omega) only[go_sem,simprocAttr,qA,roomy,f]|exact ZfY _|exact ZgO _|(refine Zjm _ _ ?_ _;intro _;rfl)|apply And.intro|omega|decide+kernel);with_reducible exact Hd.out r0):G:=h o f c ⟨r⟩
theorem kw {F C G A0 A1 A2 A3 A4 A5 A6 A7 A8 A9:Prop}{own:Nat->Bool}{b:Bool}(o:Ow own b)(f:F)(c:C)(r:Bn A0 (Bn A1 (Bn A2 (Bn A3 (Bn A4 (Bn A5 (Bn A6 (Bn A7 (Bn A8 (Bn A9 True))))))))))(h:Ow own b->F->C->Hd A0->Hd A1->Hd A2->Hd A3->Hd A4->Hd A5->Hd A6->Hd A7->Hd A8->Hd A9->G/\True:=by intro o f c r0 r1 r2 r3 r4 r5 r6 r7 r8 r9;refine⟨?_,?_⟩;(· (have hq:=True.intro;(repeat' first|refine ZbD rfl ?_|refine Zp8 o ?_|refine Zp7 o ZcC ?_|(refine ZoQ ?_;first|(refine rc c.1 rfl ?_ ?_;(· first|rfl|simp(disch:=omega) only[go_sem,simprocAttr,qA,roomy,f]))|refine Zdt c.1 rfl ?_|refine Zds c.1 rfl ?_|(refine Zf1 c.1 rfl ?_ ?_;(· first|rfl|simp(disch:=omega) only[go_sem,simprocAttr,qA,f]))|(refine rc c.2.1 rfl ?_ ?_;(· first|rfl|simp(disch:=omega) only[go_sem,simprocAttr,qA,roomy,f]))|refine Zdt c.2.1 rfl ?_|refine Zds c.2.1 rfl ?_|(refine Zf1 c.2.1 rfl ?_ ?_;(· first|rfl|simp(disch:=omega) only[go_sem,simprocAttr,qA,f]))|(refine rc c.2.2.1 rfl ?_ ?_;(· first|rfl|simp(disch:=omega) only[go_sem,simprocAttr,qA,roomy,f]))|refine Zdt c.2.2.1 rfl ?_|refine Zds c.2.2.1 rfl ?_|(refine Zf1 c.2.2.1 rfl ?_ ?_;(· first|rfl|simp(disch:=omega) only[go_sem,simprocAttr,qA,f]))|(refine rc c.2.2.2.1 rfl ?_ ?_;(· first|rfl|simp(disch:=omega) only[go_sem,simprocAttr,qA,roomy,f]))|refine Zdt c.2.2.2.1 rfl ?_|refine Zds c.2.2.2.1 rfl ?_|(refine Zf1 c.2.2.2.1 rfl ?_ ?_;(· first|rfl|simp(disch:=omega) only[go_sem,simprocAttr,qA,f]))|(refine rc c.2.2.2.2.1 rfl ?_ ?_;(· first|rfl|simp(disch:=omega) only[go_sem,simprocAttr,qA,roomy,f]))|refine Zdt c.2.2.2.2.1 rfl ?_|refine Zds c.2.2.2.2.1 rfl ?_|(refine rc c.2.2.2.2.2.1 rfl ?_ ?_;(· first|rfl|simp(disch:=omega) only[go_sem,simprocAttr,qA,roomy,f]))|refine Zdt c.2.2.2.2.2.1 rfl ?_|refine Zds c.2.2.2.2.2.1 rfl ?_|(refine rc c.2.2.2.2.2.2.1 rfl ?_ ?_;(· first|rfl|simp(disch:=omega) only[go_sem,simprocAttr,qA,roomy,f]))|refine Zdt c.2.2.2.2.2.2.1 rfl ?_|refine Zds c.2.2.2.2.2.2.1 rfl ?_)|(refine ZbF rfl rfl (λ hp=>?_) (λ hp=>?_)<;>(try simp only[hcL]at hp)<;>(replace hq:=And.intro hq hp;clear hp))|(refine ZbC _ rfl rfl (λ hp=>?_) (λ hp=>?_)<;>(try simp only[hcL]at hp)<;>(try omega)<;>(replace hq:=And.intro hq hp;clear hp))|simp(disch:=omega) only[go_sem,simprocAttr,qA,roomy,f]|exact ZfY _|exact ZgO _|(refine Zjm _ _ ?_ _;intro _;rfl)|apply And.intro|omega|decide+kernel);all_goals (revert hq;(repeat refine kcu ?_);first|(with_reducible exact Hd.out r0)|(with_reducible exact Hd.out r1)|(with_reducible exact Hd.out r2)|(with_reducible exact Hd.out r3)|(with_reducible exact Hd.out r4)|(with_reducible exact Hd.out r5)|(with_reducible exact Hd.out r6)|(with_reducible exact Hd.out r7)|(with_reducible exact Hd.out r8)|(with_reducible exact Hd.out r9))));(· ((try (with_reducible have:Hd True:=r0));(try (with_reducible have:Hd True:=r1));(try (with_reducible have:Hd True:=r2));(try (with_reducible have:Hd True:=r3));(try (with_reducible have:Hd True:=r4));(try (with_reducible have:Hd True:=r5));(try (with_reducible have:Hd True:=r6));(try (with_reducible have:Hd True:=r7));(try (with_reducible have:Hd True:=r8));(try (with_reducible have:Hd True:=r9));exact True.intro))):G:=(h o f c ⟨r.l⟩ ⟨r.r.l⟩ ⟨r.r.r.l⟩ ⟨r.r.r.r.l⟩ ⟨r.r.r.r.r.l⟩ ⟨r.r.r.r.r.r.l⟩ ⟨r.r.r.r.r.r.r.l⟩ ⟨r.r.r.r.r.r.r.r.l⟩ ⟨r.r.r.r.r.r.r.r.r.l⟩ ⟨r.r.r.r.r.r.r.r.r.r.l⟩).1
theorem kN {F:Prop}{S:St}(f:F)(σ:List (Nat×Nat)){L:List (Nat×PV)}{M:List (Nat×Ob)}(h:F->(∀p∈L,S.env p.1=p.2.ren (gOf σ))/\∀q∈M,S.objs (gOf σ q.1)=q.2.ren (gOf σ):=by intro f;refine⟨?_,?_⟩<;>(repeat' first|exact fmn|refine fmc ⟨(by first|rfl|(simp(disch:=omega) only[go_sem,simprocAttr,inL,f];first|done|omega|(congr 1;done))),?_⟩);done)
  (h3:(L.all λ p=>p.2.only (M.map (·.1)) 4)=true:=by rfl) (h4:(M.all λ q=>q.2.only (M.map (·.1)))=true:=by rfl) (h5:(M.map λ q=>gOf σ q.1).Nodup:=by exact ZbH rfl)
  (h6:(M.all λ q=>((decide (q.1<1000)||decide (2000<=q.1))&&(decide (gOf σ q.1<1000)||decide (2000<=gOf σ q.1)))||decide (gOf σ q.1=q.1))=true:=by rfl)
  (h7:ZbJ (M.map (·.1)) S.objs:=by(repeat' first|exact Zfs _ rfl|exact Zfr|refine Zft rfl ?_|refine ZgT ?_)):ZfE S L M:=Zod σ L M (h f).1 (h f).2 h3 h4 h5 h6 h7
theorem kR {F:Prop}{S:St}{P:Program}{B X:Nat->Prop}{w0:W0}{n:Nat}{c:Code}{Q:Exit->St->Prop}(f:F)(σ:List (Nat×Nat))(L:List (Nat×PV))(M:List (Nat×Ob))(hk:PW P B X w0 n c Q ⟨Zbh L,Zam M⟩)(h:F->(∀p∈L,S.env p.1=p.2.ren (gOf σ))/\∀q∈M,S.objs (gOf σ q.1)=q.2.ren (gOf σ):=by intro f;refine⟨?_,?_⟩<;>(repeat' first|exact fmn|refine fmc ⟨(by first|rfl|(simp(disch:=omega) only[go_sem,simprocAttr,inL,f];first|done|omega|(congr 1;done))),?_⟩);done)
  (h3:(L.all λ p=>p.2.only (M.map (·.1)) 4)=true:=by rfl) (h4:(M.all λ q=>q.2.only (M.map (·.1)))=true:=by rfl) (h5:(M.map λ q=>gOf σ q.1).Nodup:=by exact ZbH rfl)
  (h6:(M.all λ q=>((decide (q.1<1000)||decide (2000<=q.1))&&(decide (gOf σ q.1<1000)||decide (2000<=gOf σ q.1)))||decide (gOf σ q.1=q.1))=true:=by rfl)
  (h7:ZbJ (M.map (·.1)) S.objs:=by(repeat' first|exact Zfs _ rfl|exact Zfr|refine Zft rfl ?_|refine ZgT ?_)):PW P B X w0 n c Q S:=Zau _ (Zla σ L M (h f).1 (h f).2 h3 h4 h5 h6 h7) hk
theorem kF {F:Prop}{S:St}(f:F)(σf σ:List (Nat×Nat)){L:List (Nat×PV)}{Fs:List Fam}{M:List (Nat×Ob)}(hF:∀f∈Fs,∃r,S.objs (gOf σ f.o)= .cells (ZaR f.n r)/\∀i,i<f.n->r i= .ref (gOf σf (fid f.j i)) f.sz 0 (f.rows i).length (f.rows i).length/\S.objs (gOf σf (fid f.j i))= .row f.sz (f.rows i))(h:F->(∀p∈L,S.env p.1=p.2.ren (gOf σ))/\∀q∈M,S.objs (gOf σ q.1)=q.2.ren (gOf σ):=by intro f;refine⟨?_,?_⟩<;>(repeat' first|exact fmn|refine fmc ⟨(by first|rfl|(simp(disch:=omega) only[go_sem,simprocAttr,inL,f];first|done|omega|(congr 1;done))),?_⟩);done)
  (hn:∀f∈Fs,1<=f.j/\f.o<1125899906842624/\f.n<=1125899906842624:=by(repeat' first|exact yA _|refine uK.2 ⟨⟨uU rfl,uU rfl,by dsimp only;omega⟩,?_⟩);done)
  (c1:(L.all λ p=>p.2.only (Fs.map (·.o)++M.map (·.1)) 4)=true:=by rfl) (c2:(M.all λ q=>q.2.only (Fs.map (·.o)++M.map (·.1)))=true:=by rfl)
  (c3:((Fs.map (·.o)++M.map (·.1)).map (gOf σ)++σf.map (·.2)).Nodup:=by exact ZbH rfl) (c4:(Fs.map (·.j)).Nodup:=by exact ZbH rfl)
  (c5:((Fs.map (·.o)++M.map (·.1)).all λ i=>(((decide (i<1000)||decide (2000<=i))&&(decide (gOf σ i<1000)||decide (2000<=gOf σ i)))||decide (gOf σ i=i))&&decide (i<1125899906842624)&&decide (gOf σ i<1125899906842624))=true:=by rfl)
  (c6:(σf.all λ p=>(decide (p.2<1000)||decide (2000<=p.2))&&decide (p.2<1125899906842624))=true:=by rfl)
  (c7:ZbJ (Fs.map (·.o)++M.map (·.1)) S.objs:=by(repeat' first|refine Zl1 rfl rfl ?_|refine Zl3 ?_|refine Zl2 rfl ?_|refine Zft rfl ?_|refine ZgT ?_|exact Zfs _ rfl|exact Zfr);done):ZfD S L Fs M:=Zk9 σf σ L Fs M (h f).1 (h f).2 hF hn c1 c2 c3 c4 c5 c6 c7
theorem kG {F:Prop}{S:St}(f:F)(σf σ:List (Nat×Nat))(L:List (Nat×PV))(Fs:List Fam)(M:List (Nat×Ob))(hF:∀f∈Fs,∃r,S.objs (gOf σ f.o)= .cells (ZaR f.n r)/\∀i,i<f.n->r i= .ref (gOf σf (fid f.j i)) f.sz 0 (f.rows i).length (f.rows i).length/\S.objs (gOf σf (fid f.j i))= .row f.sz (f.rows i))(h:F->(∀p∈L,S.env p.1=p.2.ren (gOf σ))/\∀q∈M,S.objs (gOf σ q.1)=q.2.ren (gOf σ):=by intro f;refine⟨?_,?_⟩<;>(repeat' first|exact fmn|refine fmc ⟨(by first|rfl|(simp(disch:=omega) only[go_sem,simprocAttr,inL,f];first|done|omega|(congr 1;done))),?_⟩);done)
  (hn:∀f∈Fs,1<=f.j/\f.o<1125899906842624/\f.n<=1125899906842624:=by(repeat' first|exact yA _|refine uK.2 ⟨⟨uU rfl,uU rfl,by dsimp only;omega⟩,?_⟩);done)
  (c1:(L.all λ p=>p.2.only (Fs.map (·.o)++M.map (·.1)) 4)=true:=by rfl) (c2:(M.all λ q=>q.2.only (Fs.map (·.o)++M.map (·.1)))=true:=by rfl)
  (c3:((Fs.map (·.o)++M.map (·.1)).map (gOf σ)++σf.map (·.2)).Nodup:=by exact ZbH rfl) (c4:(Fs.map (·.j)).Nodup:=by exact ZbH rfl)
  (c5:((Fs.map (·.o)++M.map (·.1)).all λ i=>(((decide (i<1000)||decide (2000<=i))&&(decide (gOf σ i<1000)||decide (2000<=gOf σ i)))||decide (gOf σ i=i))&&decide (i<1125899906842624)&&decide (gOf σ i<1125899906842624))=true:=by rfl)
  (c6:(σf.all λ p=>(decide (p.2<1000)||decide (2000<=p.2))&&decide (p.2<1125899906842624))=true:=by rfl)
  (c7:ZbJ (Fs.map (·.o)++M.map (·.1)) S.objs:=by(repeat' first|refine Zl1 rfl rfl ?_|refine Zl3 ?_|refine Zl2 rfl ?_|refine Zft rfl ?_|refine ZgT ?_|exact Zfs _ rfl|exact Zfr);done):ZfD S L Fs M:=Zk9 σf σ L Fs M (h f).1 (h f).2 hF hn c1 c2 c3 c4 c5 c6 c7
theorem kT0 {F G:Prop}(f:F)(h:F->G:=by intro f;(repeat' first|exact fmn|refine fmc ⟨?_,?_⟩);(all_goals refine⟨_,(by first|rfl|(simp(disch:=omega) only[go_sem,simprocAttr,f];done)|(simp(disch:=omega) only[go_sem,simprocAttr,f];rfl)),λ i hi=>?_⟩);(all_goals dsimp only at hi|-);(all_goals try (exfalso;omega));(all_goals try (simp(disch:=omega) only[go_sem,simprocAttr,f,Zdk,Zdo];done))):G:=h f
theorem kT1 {F G:Prop}(f:F)(p0:Nat)(h:F->Ix p0->G:=by intro f p0;(repeat' first|exact fmn|refine fmc ⟨?_,?_⟩);(all_goals refine⟨_,(by first|rfl|(simp(disch:=omega) only[go_sem,simprocAttr,f];done)|(simp(disch:=omega) only[go_sem,simprocAttr,f];rfl)),λ i hi=>?_⟩);(all_goals dsimp only at hi|-);(all_goals rcases kem p0 i with rfl|hi0);(all_goals try (exfalso;omega));(all_goals try (simp(disch:=omega) only[go_sem,simprocAttr,f,Zdk,Zdo];done));(all_goals try (simp(disch:=omega) only[go_sem,simprocAttr,f,hi0,Zdk,Zdo];done))):G:=h f (kix p0)
theorem kT2 {F G:Prop}(f:F)(p0:Nat)(p1:Nat)(h:F->Ix p0->Ix p1->G:=by intro f p0 p1;(repeat' first|exact fmn|refine fmc ⟨?_,?_⟩);(all_goals refine⟨_,(by first|rfl|(simp(disch:=omega) only[go_sem,simprocAttr,f];done)|(simp(disch:=omega) only[go_sem,simprocAttr,f];rfl)),λ i hi=>?_⟩);(all_goals dsimp only at hi|-);(all_goals rcases kem p0 i with rfl|hi0);(all_goals rcases kem p1 i with rfl|hi1);(all_goals try (exfalso;omega));(all_goals try (simp(disch:=omega) only[go_sem,simprocAttr,f,Zdk,Zdo];done));(all_goals try (simp(disch:=omega) only[go_sem,simprocAttr,f,hi0,Zdk,Zdo];done));(all_goals try (simp(disch:=omega) only[go_sem,simprocAttr,f,hi1,Zdk,Zdo];done));(all_goals try (simp(disch:=omega) only[go_sem,simprocAttr,f,hi0,hi1,Zdk,Zdo];done))):G:=h f (kix p0) (kix p1)
theorem kE {P:Program}{f:FuncId}{fn:Func}{c:Code}{args:List D}{r:D}(hf:P.funcs[f]? =some fn)
  (h:(∃w X vs,Zgq w X args vs)->∀B X w0,PW P B X w0 fn.ntmps c (Zm5 P fn.results.toList r) ⟨ZdC 0 args,λ _=> .dead⟩)(hb:fn.body=some c:=by rfl) (hn:(fn.name== "runtime.NumGoroutine")=false:=by decide+kernel) (hl:args.length<=fn.ntmps:=by exact uU rfl):Zaa P f args r:=ZsN hf hb hn hl h
theorem kM {P:Program}{f:FuncId}{fn:Func}{c:Code}{args:List PV}{M M':List (Nat×Ob)}{r:PV}(hf:P.funcs[f]? =some fn)
  (h:∀B X w0,PW P B X w0 fn.ntmps c (Zm6 P fn.results.toList r M') ⟨ZfG 0 args,Zam M⟩)(hb:fn.body=some c:=by rfl) (hn:(fn.name== "runtime.NumGoroutine")=false:=by decide+kernel) (hl:args.length<=fn.ntmps:=by exact uU rfl)
  (hids:M'.map (·.1)=M.map (·.1):=by rfl) (hnd:(M.map (·.1)).Nodup:=by exact ZbH rfl) (hro:r.only (M.map (·.1)) 4=true:=by rfl) (hMo':(M'.all λ q=>q.2.only (M.map (·.1)))=true:=by rfl)
  (hpass:(M.all λ q=>(match q.2 with| .dead=>true|_=>false)||(decide (1000<=q.1)&&decide (q.1<2000)))=true:=by rfl):Zaf P f args M r M':=ZnO hf hb hn hl hids hnd hro hMo' hpass h
end Go.PS
namespace Go.PS
open Go Go.ChangeShapes Go.WideShapes Go.RowKit Go.Deep
def Zg2 (f:TypeId->List D->Prop):List TypeId->List D->Prop
 |[],cs=>cs=[]
 |t::ts,cs=>∃p r,cs=p++r/\f t p/\Zg2 f ts r
def Zbl (P:Program):Nat->TypeId->List D->Prop
 |0,_,_=>False
 |n+1,t,cs=>match P.underlying t with
  |some (.int k)=>∃m,cs=[.sc (.int k m)]/\(Lit.int k m).wf=true
  |some .bool=>∃b,cs=[.sc (.bool b)]
  |some .string=>∃s,cs=[.sc (.string s)]
  |some (.struct fs)=>Zg2 (Zbl P n) (fs.toList.map (·.type)) cs
  |some (.array k e)=>Zg2 (Zbl P n) (List.replicate k e) cs
  |some (.slice e)=>∃l:List D,cs=[.sl l]/\l.length*P.bytesOf e<=reachBytes/\∀d∈l,∃es,d=D.ofCells (tyi P e).agg es/\es.length=P.cellsOf e/\Zbl P n e es
  |_=>False
def ZqW (P:Program)(t:TypeId):Option (List TypeId):=match P.underlying t with
 |some (.struct fs)=>some (fs.toList.map (·.type))
 |_=>none
def ZqN (P:Program)(t:TypeId):Option TypeId:=match P.underlying t with
 |some (.slice e)=>some e
 |_=>none
theorem Zhc {P:Program}{n:Nat}{t:TypeId}{ts:List TypeId}{cs:List D}(hu:ZqW P t=some ts)(h:Zbl P (n+1) t cs):Zg2 (Zbl P n) ts cs:=by
 unfold ZqW at hu;split at hu
 ·rename_i fs hf;cases hu;simp only[Zbl,hf]at h;exact h
 ·cases hu
theorem Zjn {P:Program}{n:Nat}{t e:TypeId}{cs:List D}(hu:ZqN P t=some e)(h:Zbl P (n+1) t cs):
  ∃l:List D,cs=[.sl l]/\∀d∈l,∃es,d=D.ofCells (tyi P e).agg es/\es.length=P.cellsOf e/\Zbl P n e es:=by
 unfold ZqN at hu;split at hu
 ·rename_i e' hf;cases hu;simp only[Zbl,hf]at h;obtain⟨l,h1,_,h2⟩:=h;exact⟨l,h1,h2⟩
 ·cases hu
theorem Zir {α:Type}{f:α->D}:∀{l:List D},(∀d∈l,∃a,d=f a)->∃ys:List α,l=ys.map f
 |[],_=>⟨[],rfl⟩
 |d::l,h=>by
  obtain⟨a,rfl⟩:=h d (by simp);obtain⟨ys,rfl⟩:=Zir (l:=l) (λ e he=>h e (uM _ he));exact⟨a::ys,rfl⟩
def ZfR (P:Program):Nat->List Field->Option Nat
 |k,[]=>some k
 |k,f::fs=>if f.offset=k then ZfR P (k+P.cellsOf f.type) fs else none
def Zcy (P:Program):Nat->TypeId->Bool
 |0,_=>false
 |n+1,t=>match P.underlying t with
  |some (.int _)=>P.cellsOf t==1&& !(tyi P t).agg
  |some .bool=>P.cellsOf t==1&& !(tyi P t).agg
  |some .string=>P.cellsOf t==1&& !(tyi P t).agg
  |some (.struct fs)=>fs.toList.all (λ f=>Zcy P n f.type)&&ZfR P 0 fs.toList==some (P.cellsOf t)&&(tyi P t).agg
  |some (.slice e)=>Zcy P n e&&P.cellsOf t==1&& !(tyi P t).agg&&P.cellsOf e != 0
  |some (.array k e)=>Zcy P n e&&k*P.cellsOf e==P.cellsOf t&&(tyi P t).agg
  |_=>false
theorem Zwo {P:Program}:∀{n:Nat} {t:TypeId},Zcy P n t=true->(tyi P t).agg=false->P.cellsOf t=1:=by
 intro n t h ha;cases n with
 |zero=>simp[Zcy]at h
 |succ n=>
  simp only[Zcy]at h;split at h<;>simp_all
theorem Zu0 {P:Program}:∀(fs:List Field) (k e:Nat),ZfR P k fs=some e->k<=e:=by
 intro fs
 induction fs with
 |nil=>intro k e h;simp[ZfR]at h;omega
 |cons f fs ih=>
  intro k e h;simp only[ZfR]at h;split at h
  ·have:=ih _ _ h;omega
  ·cases h
section reads
variable {H:Type}{enc:TypeId×Value->H}{P:Program}{w:World}{base:Nat}{spare:Nat->Bool}{held:Bool}
abbrev noX :Nat->Prop:=λ _=>False
def Fit (w:World)(ds:List D)(cs:List Value):Prop:=ds.length=cs.length/\∀(j:Nat) d v,ds[j]? =some d->cs[j]? =some v->D.At w noX d v/\v.oneCell'=true
theorem Fit.nil :Fit w [] []:=⟨rfl,by simp⟩
theorem Fit.append {ds es:List D}{cs vs:List Value}(h1:Fit w ds cs)(h2:Fit w es vs):Fit w (ds++es) (cs++vs):=by
 refine⟨by simp[h1.1,h2.1],λ j d v hj hv=>?_⟩;rw[gT]at hj hv;rw[h1.1]at hj;split at hj
 ·rename_i hlt;rw[if_pos hlt]at hv;exact h1.2 j d v hj hv
 ·rename_i hlt;rw[if_neg hlt]at hv;exact h2.2 _ d v hj hv
theorem Fit.cells {es:List D}{vs:List Value}(h:Fit w es vs):∀e∈es,e.cells=[e]:=by
 intro e he;obtain⟨j,hj⟩:=yW he;have hl:=(uB.1 hj).1;have hv:vs[j]? =some (vs[j]'(by rw[<-h.1];exact hl)):=uL _;obtain⟨h1,h2⟩:=h.2 j e _ hj hv;exact h1.single h2
theorem ZlS {agg:Bool}{es:List D}{vs:List Value}(h:Fit w es vs)(ha:agg=false->es.length=1):(D.ofCells agg es).cells=es:=by
 unfold D.ofCells;cases agg with
 |true=>rfl
 |false=>
  match es,ha rfl,h with
  |[e],_,h=>exact h.cells e (by simp)
def ZdW (P:Program)(t:TypeId)(d:DataW H):Prop:=(d.weights P t).all (·<=reachBytes)=true
theorem Zmn {e:TypeId}:∀{l:List (DataW H)},(DataW.weightsAll P e l).all (·<=reachBytes)=true->∀d∈l,ZdW P e d
 |[],_,d,hd=>by cases hd
 |x::l,h,d,hd=>by
  simp only[DataW.weightsAll,List.all_append,uO]at h;rcases yH.1 hd with rfl|hd
  ·exact h.1
  ·exact Zmn h.2 d hd
theorem ZqL {ts:List TypeId}{ds:List (DataW H)}(h:(DataW.weightsEach P ts ds).all (·<=reachBytes)=true){j:Nat}{t:TypeId}{d:DataW H}(ht:ts[j]? =some t)(hd:ds[j]? =some d):ZdW P t d:=
 uW.2 λ n hn=>uW.1 h n (DataW.weights_mem_each ht hd n hn)
theorem ZtR {n m:Nat}{cs:List Value}(ih:∀(t:TypeId) (cs:List Value) x,Zcy P n t=true->DataW.trod enc P w base spare held m t cs=some x->ZdW P t x.1->∃ds,Zbl P n t ds/\Fit w ds cs):
  ∀(fs:List Field) (k e:Nat),ZfR P k fs=some e->e=cs.length->(∀f∈fs,Zcy P n f.type=true)->
   (∀f∈fs,∃x,DataW.trod enc P w base spare held m f.type ((cs.drop f.offset).take (P.cellsOf f.type))=some x/\ZdW P f.type x.1)->
   ∃ds,Zg2 (Zbl P n) (fs.map (·.type)) ds/\Fit w ds (cs.drop k):=by
 intro fs
 induction fs with
 |nil=>
  intro k e h he _ _;simp only[ZfR,uZ]at h;refine⟨[],rfl,?_⟩;rw[jZ (by omega)];exact Fit.nil
 |cons f fs ihf=>
  intro k e h he hp hr;simp only[ZfR]at h;split at h
  ·rename_i hoff;have hle:=Zu0 _ _ _ h;obtain⟨x,hx,hxs⟩:=hr f (by simp);obtain⟨d1,g1,g2⟩:=ih f.type _ x (hp f (by simp)) hx hxs;obtain⟨d2,g3,g4⟩:=ihf _ _ h he (λ f' hf'=>hp f' (uM _ hf')) (λ f' hf'=>hr f' (uM _ hf'));refine⟨d1++d2,⟨d1,d2,rfl,g1,g3⟩,?_⟩;rw[hoff]at g2;have:=g2.append g4;rw[<-List.drop_drop,yU]at this;exact this
  ·cases h
theorem Zwg {n m:Nat}{cs:List Value}{e:TypeId}(ih:∀(t:TypeId) (cs:List Value) x,Zcy P n t=true->DataW.trod enc P w base spare held m t cs=some x->ZdW P t x.1->∃ds,Zbl P n t ds/\Fit w ds cs)(hp:Zcy P n e=true):
  ∀(k j:Nat),(k+j)*P.cellsOf e=cs.length->
   (∀i,i<k+j->∃x,DataW.trod enc P w base spare held m e ((cs.drop (i*P.cellsOf e)).take (P.cellsOf e))=some x/\ZdW P e x.1)->
   ∃ds,Zg2 (Zbl P n) (List.replicate k e) ds/\Fit w ds (cs.drop (j*P.cellsOf e)):=by
 intro k
 induction k with
 |zero=>
  intro j h _;refine⟨[],rfl,?_⟩;rw[jZ (by rw[qO]at h;omega)];exact Fit.nil
 |succ k ihk=>
  intro j h hr;obtain⟨x,hx,hxs⟩:=hr j (by omega);obtain⟨d1,g1,g2⟩:=ih e _ x hp hx hxs;obtain⟨d2,g3,g4⟩:=ihk (j+1) (by rw[<-h];congr 1;omega) (λ i hi=>hr i (by omega));refine⟨d1++d2,⟨d1,d2,rfl,g1,g3⟩,?_⟩;have:=g2.append g4;rw[qE,Nat.one_mul,<-List.drop_drop,yU]at this;exact this
theorem Zzr :∀(n:Nat) (t:TypeId) (m:Nat) (cs:List Value) x,Zcy P n t=true->DataW.trod enc P w base spare held m t cs=some x->ZdW P t x.1->∃ds,Zbl P n t ds/\Fit w ds cs:=by
 intro n
 induction n with
 |zero=>intro t m cs x h;simp[Zcy]at h
 |succ n ih=>
  intro t m cs x hp h hsz;simp only[Zcy]at hp;simp only[Zbl];split at hp
  ·rename_i k hu;simp only[hu];obtain⟨q,rfl,rfl,hw⟩:=DataW.trod_int hu h;refine⟨[.sc (.int k q)],⟨q,rfl,hw⟩,rfl,λ j d v hj hv=>?_⟩;rcases j with _|j<;>simp at hj hv
   subst hj;subst hv;exact⟨.sc _ rfl,rfl⟩
  ·rename_i hu;simp only[hu];obtain⟨b,rfl,rfl⟩:=DataW.trod_bool hu h;refine⟨[.sc (.bool b)],⟨b,rfl⟩,rfl,λ j d v hj hv=>?_⟩;rcases j with _|j<;>simp at hj hv
   subst hj;subst hv;exact⟨.sc _ rfl,rfl⟩
  ·rename_i hu;simp only[hu];obtain⟨s,rfl,_⟩:=DataW.trod_string hu h;refine⟨[.sc (.string s)],⟨s,rfl⟩,rfl,λ j d v hj hv=>?_⟩;rcases j with _|j<;>simp at hj hv
   subst hj;subst hv;exact⟨.sc _ rfl,rfl⟩
  ·rename_i fs hu;simp only[hu];simp only[uO,uW,zD]at hp;obtain⟨xs,m',rfl,hxe,hlen,hxl,hf⟩:=DataW.trod_struct hu h;obtain⟨ds,g1,g2⟩:=ZtR (cs:=cs) (λ t cs x=>ih t m' cs x) fs.toList 0 _ hp.1.2 hlen.symm hp.1.1 (λ f hfm=>by
    obtain⟨i,hi⟩:=yW hfm;have hi':fs[i]? =some f:=by simpa using hi
    have hil:i<xs.length:=by rw[hxl];exact(qX.1 hi').1
    refine⟨xs[i],(hf i f hi').trans (uL hil),?_⟩;rw[ZdW,hxe]at hsz;simp only[DataW.weights,hu]at hsz;exact ZqL hsz (j:=i) (by rw[uI,hi];rfl) (by rw[uI,uL hil];rfl))
   exact⟨ds,g1,by simpa using g2⟩
  ·rename_i e hu;simp only[hu];simp only[uO,zD,yK,By,ne_eq]at hp;obtain⟨⟨⟨hpe,_⟩,_⟩,hne⟩:=hp;rcases open_slice hu h with⟨rfl,rfl⟩|⟨a,len,cap,q,m',Dd,Pl,rfl,hb,hl,hm,hq,hxe,hi⟩
   ·refine⟨[.sl []],⟨[],rfl,by simp,by simp⟩,rfl,λ j d v hj hv=>?_⟩;rcases j with _|j<;>simp at hj hv
    subst hj;subst hv;exact⟨.slnil _ _,rfl⟩
   ·have hlq:len<=q:=by rw[hq];split<;>omega
    rw[ZdW,hxe]at hsz;simp only[DataW.weights,hu,List.all_cons,uO,List.all_append,uG,uE,kS]at hsz;have hszl:len*P.bytesOf e<=reachBytes:=gR (yF _ (Nat.le_add_right _ _)) hsz.1;have hex:∀i,i<len->∃es vs,Zbl P n e es/\Fit w es vs/\vs.length=P.cellsOf e/\∀j,j<P.cellsOf e->w.cell? ((a.add (i*P.cellsOf e)).add j)=vs[j]? :=by
     intro i hil;obtain⟨cs',hc,ht⟩:=hi i (by omega);obtain⟨es,h1,h2⟩:=ih e m' cs' _ hpe ht (Zmn hsz.2.1 _ (uN.2 ⟨i,yD.2 hil,rfl⟩));obtain⟨_,hcl,hat⟩:=World.cells?_some hc;exact⟨es,cs',h1,h2,hcl,hat⟩
    have hall:∃l:List (List D),l.length=len/\∀i es,l[i]? =some es->∃vs,Zbl P n e es/\Fit w es vs/\vs.length=P.cellsOf e/\∀j,j<P.cellsOf e->w.cell? ((a.add (i*P.cellsOf e)).add j)=vs[j]? :=by
     have:∀k,k<=len->∃l:List (List D),l.length=k/\∀i es,l[i]? =some es->∃vs,Zbl P n e es/\Fit w es vs/\vs.length=P.cellsOf e/\∀j,j<P.cellsOf e->w.cell? ((a.add (i*P.cellsOf e)).add j)=vs[j]? :=by
      intro k
      induction k with
      |zero=>intro _;exact⟨[],rfl,by simp⟩
      |succ k ihk=>
       intro hk;obtain⟨l,h1,h2⟩:=ihk (by omega);obtain⟨es,vs,h3⟩:=hex k (by omega);refine⟨l++[es],by simp[h1],λ i es' hi'=>?_⟩;rw[gT]at hi';split at hi'
       ·exact h2 i es' hi'
       ·rename_i hge;have hik:i-l.length=0:=by
         have:=(uB.1 hi').1;simp at this;omega
        rw[hik]at hi';simp at hi';subst hi';have:i=k:=by omega
        subst this;exact⟨vs,h3⟩
     exact this len (uH _)
    obtain⟨l,hll,hlat⟩:=hall;have hagg:(tyi P e).agg=false->P.cellsOf e=1:=Zwo hpe;refine⟨[.sl (l.map (D.ofCells (tyi P e).agg))],⟨_,rfl,by rw[uE,hll];exact hszl,λ d hd=>?_⟩,rfl,λ j d v hj hv=>?_⟩
    ·obtain⟨es,hes,rfl⟩:=uN.1 hd;obtain⟨i,hi'⟩:=yW hes;obtain⟨vs,h1,h2,h3,_⟩:=hlat i es hi';exact⟨es,rfl,by rw[h2.1,h3],h1⟩
    ·rcases j with _|j<;>simp at hj hv
     subst hj;subst hv;refine⟨?_,rfl⟩;by_cases hz:len=0
     ·subst hz;have:l=[]:=qF hll;subst this;exact .slnil _ _
     ·
      have h0:a.spot=none:=by
       obtain⟨es,hes⟩:=Zad (l:=l) (k:=0) (by omega);obtain⟨vs,h1,h2,h3,h4⟩:=hlat 0 es hes;have hc:=h4 0 (by omega);have hv:vs[0]? =some (vs[0]'(by omega)):=uL _;rw[hv]at hc;simp only[jI]at hc;unfold World.cell? at hc;split at hc
       ·split at hc
        ·cases hc
        ·rename_i hs;cases hsp:a.spot with
         |none=>rfl
         |some s=>simp[Addr.add,hsp]at hs
       ·cases hc
      obtain⟨b,off,sp⟩:=a;simp only at h0;subst h0;have hadd:∀i j,((⟨b,off,none⟩:Addr).add i).add j=⟨b,off+i+j,none⟩:=λ i j=>by rw[ZcY,ZcY]
      have:=D.At.sl (w:=w) (X:=noX) (l.map (D.ofCells (tyi P e).agg)) b off cap (P.cellsOf e) (by simp[hll,hl]) hm (λ d hd=>by
        obtain⟨es,hes,rfl⟩:=uN.1 hd;obtain⟨i,hi'⟩:=yW hes;obtain⟨vs,h1,h2,h3,_⟩:=hlat i es hi';rw[ZlS h2 (λ h=>by rw[h2.1,h3];exact hagg h),h2.1,h3])
       (λ i j=>(w.cell? ⟨b,off+i*P.cellsOf e+j,none⟩).getD undef)
       (λ i d j c hi' hj=>by
        rw[uI]at hi';cases hes:l[i]? with
        |none=>rw[hes]at hi';cases hi'
        |some es=>
         rw[hes]at hi';cases hi';obtain⟨vs,h1,h2,h3,h4⟩:=hlat i es hes;rw[ZlS h2 (λ h=>by rw[h2.1,h3];exact hagg h)]at hj;have hjl:=(uB.1 hj).1;rw[h2.1,h3]at hjl;have hv:vs[j]? =some (vs[j]'(by omega)):=uL _;have hc:=h4 j hjl;rw[hadd,hv]at hc;rw[hc];exact⟨rfl,(h2.2 j c _ hj hv).2,λ h=>h⟩)
       (λ i d j c hi' hj=>by
        rw[uI]at hi';cases hes:l[i]? with
        |none=>rw[hes]at hi';cases hi'
        |some es=>
         rw[hes]at hi';cases hi';obtain⟨vs,h1,h2,h3,h4⟩:=hlat i es hes;rw[ZlS h2 (λ h=>by rw[h2.1,h3];exact hagg h)]at hj;have hjl:=(uB.1 hj).1;rw[h2.1,h3]at hjl;have hv:vs[j]? =some (vs[j]'(by omega)):=uL _;have hc:=h4 j hjl;rw[hadd,hv]at hc;rw[hc];exact(h2.2 j c _ hj hv).1)
      simp only[uE,hll]at this;exact this
  ·rename_i k e hu;simp only[hu];simp only[uO,zD]at hp;obtain⟨xs,m',rfl,hxe,hlen,hxl,hf⟩:=DataW.trod_array hu h;obtain⟨ds,g1,g2⟩:=Zwg (cs:=cs) (λ t cs x=>ih t m' cs x) hp.1.1 k 0 (by rw[gH,hp.1.2,hlen]) (λ i hi=>by
    have hil:i<xs.length:=by omega
    refine⟨xs[i],(hf i (by omega)).trans (uL hil),?_⟩;rw[ZdW,hxe]at hsz;simp only[DataW.weights,hu]at hsz;exact Zmn hsz _ (uN.2 ⟨xs[i],jN hil,rfl⟩))
   exact⟨ds,g1,by simpa using g2⟩
  ·cases hp
theorem ZvS {r:Reach}{b0:Nat}{t:TypeId}{v:Value}{k:Nat}{e:TypeId}(ht:P.underlying t=some (.array k e))(h:Value.okWide P w r b0 t v):∃cs,v= .agg cs/\cs.size=P.cellsOf t:=by
 unfold Value.okWide at h;rw[ht]at h;obtain⟨cs,h1,h2,_⟩:=h;exact⟨cs,h1,h2⟩
def ZhP (P:Program)(t:TypeId)(x:D):Prop:=∃cs,Zbl P 8 t cs/\x=D.ofCells (tyi P t).agg cs
theorem Zsb {r:Reach}{b0:Nat}{t:TypeId}{v:Value}{d:DataW H}{p:List MemPlace}(hp:Zcy P 8 t=true)(hv:Value.okWide P w r b0 t v)(h:DataW.Trod enc P w base spare held t v d p)(hsz:ZdW P t d):
  ∃x,ZhP P t x/\D.At w noX x v:=by
 obtain⟨fuel,hf⟩:=h;obtain⟨ds,h1,h2⟩:=Zzr 8 t fuel _ _ hp hf hsz;refine⟨_,⟨ds,h1,rfl⟩,?_⟩
 replace hp:Zcy P (7+1) t=true:=hp
 rw[Zcy]at hp;split at hp
 ·rename_i k hu;simp only[uO,zD,yK]at hp;obtain⟨q,rfl⟩:=okWide_int hu hv;have hl:=h2.1
  match ds,hl,h2 with
  |[e],_,h2=>rw[hp.2];exact(h2.2 0 e _ rfl rfl).1
 ·rename_i hu;simp only[uO,zD,yK]at hp;obtain⟨q,rfl⟩:=okWide_bool hu hv;have hl:=h2.1
  match ds,hl,h2 with
  |[e],_,h2=>rw[hp.2];exact(h2.2 0 e _ rfl rfl).1
 ·rename_i hu;simp only[uO,zD,yK]at hp;obtain⟨q,rfl⟩:=okWide_string hu hv;have hl:=h2.1
  match ds,hl,h2 with
  |[e],_,h2=>rw[hp.2];exact(h2.2 0 e _ rfl rfl).1
 ·rename_i fs hu;simp only[uO]at hp;obtain⟨cs,rfl,hsz⟩:=okWide_struct hu hv;rw[hp.2];have hl:ds.length=cs.size:=by have:=h2.1;simpa[Value.cells]using this
  refine .ag ds cs hl.symm (λ j v hj=>?_) (λ j e v hj hv=>?_)
  ·have hjl:=(qX.1 hj).1;exact(h2.2 j _ v (uL (by omega)) (by simpa[Value.cells]using hj)).2
  ·exact(h2.2 j e v hj (by simpa[Value.cells]using hv)).1
 ·rename_i e hu;simp only[uO,zD,yK]at hp;obtain⟨a,len,cap,rfl⟩:=okWide_slice hu hv;have hl:=h2.1
  match ds,hl,h2 with
  |[e],_,h2=>rw[hp.1.2];exact(h2.2 0 e _ rfl rfl).1
 ·rename_i k e hu;simp only[uO]at hp;obtain⟨cs,rfl,hsz⟩:=ZvS hu hv;rw[hp.2];have hl:ds.length=cs.size:=by have:=h2.1;simpa[Value.cells]using this
  refine .ag ds cs hl.symm (λ j v hj=>?_) (λ j e v hj hv=>?_)
  ·have hjl:=(qX.1 hj).1;exact(h2.2 j _ v (uL (by omega)) (by simpa[Value.cells]using hj)).2
  ·exact(h2.2 j e v hj (by simpa[Value.cells]using hv)).1
 ·cases hp
theorem Zse {r:Reach}{b0:Nat}:∀(ts:List TypeId) (vs:List Value) (ds:List (DataW H)) (p:List MemPlace),(∀t∈ts,Zcy P 8 t=true)->(∀(j:Nat) t v,ts[j]? =some t->vs[j]? =some v->Value.okWide P w r b0 t v)->
  DataW.TrodAll enc P w base spare held ts vs ds p->(∀(j:Nat) t d,ts[j]? =some t->ds[j]? =some d->ZdW P t d)->∃xs:List D,xs.length=ts.length/\vs.length=ts.length/\ds.length=ts.length/\(∀(j:Nat) t x,ts[j]? =some t->xs[j]? =some x->ZhP P t x)/\∀(j:Nat) x v,xs[j]? =some x->vs[j]? =some v->D.At w noX x v:=by
 intro ts
 induction ts with
 |nil=>
  intro vs ds p _ _ h _;cases vs<;>cases ds<;>simp[DataW.TrodAll]at h
  exact⟨[],rfl,rfl,rfl,by simp,by simp⟩
 |cons t ts ih=>
  intro vs ds p hp hv h hsz;cases vs with
  |nil=>simp[DataW.TrodAll]at h
  |cons v vs=>
   cases ds with
   |nil=>simp[DataW.TrodAll]at h
   |cons d ds=>
    obtain⟨p1,q1,h1,h2,_⟩:=h;obtain⟨x,g1,g2⟩:=Zsb (hp t (by simp)) (hv 0 t v rfl rfl) h1 (hsz 0 t d rfl rfl);obtain⟨xs,e1,e2,e3,e4,e5⟩:=ih vs ds q1 (λ t' ht'=>hp t' (uM _ ht')) (λ j t' v' hj hv'=>hv (j+1) t' v' (by simpa using hj) (by simpa using hv')) h2 (λ j t' d' hj hd'=>hsz (j+1) t' d' (by simpa using hj) (by simpa using hd'));refine⟨x::xs,by simp[e1],by simp[e2],by simp[e3],λ j t' x' hj hx=>?_,λ j x' v' hj hv'=>?_⟩
    ·cases j with
     |zero=>simp at hj hx;subst hj;subst hx;exact g1
     |succ j=>exact e4 j t' x' (by simpa using hj) (by simpa using hx)
    ·cases j with
     |zero=>simp at hj hv';subst hj;subst hv';exact g2
     |succ j=>exact e5 j x' v' (by simpa using hj) (by simpa using hv')
theorem Zsf (hl:laidOutB P=true){W W':World}(hb:Below W.heap.size W W'):∀(ts:List TypeId) (vs:List Value) (ds:List (DataW H)) (p:List MemPlace),(∀t∈ts,P.readableRec t=true/\t<P.types.size)->(∀x∈p,x.block<W.heap.size)->
  DataW.TrodAll enc P W 0 (λ _=>true) true ts vs ds p->DataW.TrodAll enc P W' 0 (λ b=>decide (b<W.heap.size)) true ts vs ds p:=by
 intro ts
 induction ts with
 |nil=>intro vs ds p _ _ h;cases vs<;>cases ds<;>simp[DataW.TrodAll]at h|-;exact h
 |cons t ts ih=>
  intro vs ds p hr hlt h;cases vs with
  |nil=>simp[DataW.TrodAll]at h
  |cons v vs=>
   cases ds with
   |nil=>simp[DataW.TrodAll]at h
   |cons d ds=>
    obtain⟨p1,q1,h1,h2,rfl⟩:=h;exact⟨p1,q1,Below.trod hl (hr t (by simp)).1 (hr t (by simp)).2 h1 hb (λ x hx=>hlt x (by simp[hx])),ih vs ds q1 (λ t' ht'=>hr t' (uM _ ht')) (λ x hx=>hlt x (by simp[hx])) h2,rfl⟩
end reads
end Go.PS
namespace Go.Bd
def sm (f:Nat->Int):Nat->Int
 |0=>0
 |k+1=>sm f k+f k
theorem sm_congr {f g:Nat->Int}:∀n,(∀k,k<n->f k=g k)->sm f n=sm g n
 |0,_=>rfl
 |n+1,h=>by rw[sm,sm,sm_congr n λ k hk=>h k (by omega),h n (by omega)]
theorem Zj9 (f g:Nat->Int):∀n,sm (λ k=>f k+g k) n=sm f n+sm g n
 |0=>rfl
 |n+1=>by rw[sm,sm,sm,Zj9 f g n];omega
theorem ZqO {f g:Nat->Int}:∀n,(∀k,k<n->f k<=g k)->sm f n<=sm g n
 |0,_=>gC _
 |n+1,h=>by
  have:=ZqO n λ k hk=>h k (by omega)
  have:=h n (by omega);rw[sm,sm];omega
theorem ZqP :∀n,sm (λ _=>0) n=0
 |0=>rfl
 |n+1=>by rw[sm,ZqP n];rfl
theorem ZhF {f:Nat->Int}(n:Nat)(h:∀k,k<n->f k=0):sm f n=0:=by rw[sm_congr n h,ZqP]
theorem Zmo (v:Nat)(x:Int):∀n,sm (λ k=>if k=v then x else 0) n=if v<n then x else 0
 |0=>rfl
 |n+1=>by
  rw[sm,Zmo v x n];by_cases c:n=v
  ·subst c;rw[if_neg (by omega),if_pos rfl,if_pos (by omega)];omega
  ·by_cases c2:v<n
   ·rw[if_pos c2,if_neg c,if_pos (by omega)];omega
   ·rw[if_neg c2,if_neg c,if_neg (by omega)];rfl
def Za5 {α:Type}:Option (α×Int)->Option (α×Int)->Option (α×Int)
 |none,y=>y
 |some x,none=>some x
 |some x,some y=>if y.2<x.2 then some y else some x
theorem ZhY {α:Type}(x:Option (α×Int)):Za5 x none=x:=by cases x<;>rfl
theorem Zsw {α:Type}(x y z:Option (α×Int)):Za5 (Za5 x y) z=Za5 x (Za5 y z):=by
 rcases x with _|x<;>rcases y with _|y<;>rcases z with _|z<;>try rfl
 ·rw[ZhY,ZhY]
 ·by_cases h1:y.2<x.2<;>by_cases h2:z.2<y.2<;>by_cases h3:z.2<x.2<;>first|(exfalso;omega)|simp[Za5,h1,h2,h3]
theorem Zli {α β:Type}(B:β->Option (α×Int)):∀(L:List β) (st:Option (α×Int)),L.foldl (λ st v=>Za5 st (B v)) st=Za5 st (L.foldl (λ st v=>Za5 st (B v)) none)
 |[],st=>(ZhY st).symm
 |v::L,st=>by
  rw[jB,jB,Zli B L,Zli B L (Za5 none (B v)),Zsw];rfl
section bound
variable (c:Nat->Nat->Int)(n:Nat)
def Zan :List Nat->Int
 |[]=>0
 |u::l=>(l.map (c u)).sum+Zan l
def fr (l:List Nat)(w:Nat):Int:=if w∈l then 0 else 1
def Zcx (l:List Nat)(v:Nat):Int:=sm (λ w=>if w≠v/\w∉l then c v w else 0) n
def ZdG (l:List Nat)(v:Nat):Int:=sm (λ w=>if w≠v/\w∉l then min (c v w) (c w v)else 0) n
def low (l:List Nat):Int:=sm (λ b=>sm (λ a=>if a∉l/\b∉l then min (c a b) (c b a)else 0) b) n
def Zbf :Nat->List Nat->Option (List Nat×Int)
 |0,l=>some (l,Zan c l)
 |f+1,l=>(List.range n).foldl (λ st v=>Za5 st (if v∈l then none else Zbf f (l++[v]))) none
def ZcG (st:Option (List Nat×Int))(x:Int):Bool:=match st with
 |none=>false
 |some s=>decide (s.2<=x)
def ZbK :Nat->List Nat->Int->Int->Option (List Nat×Int)->Option (List Nat×Int)
 |0,l,cost,rest,st=>if ZcG st (cost+rest)then st else some (l,cost)
 |f+1,l,cost,rest,st=>if ZcG st (cost+rest)then st else(List.range n).foldl (λ st v=>if v∈l then st else ZbK f (l++[v]) (cost+Zcx c n l v) (rest-ZdG c n l v) st) st
def Zes (l:List Nat):Int:=Zan c l+(l.map λ u=>sm (λ w=>if w∉l then c u w else 0) n).sum
theorem Zmz (v:Nat):∀l:List Nat,Zan c (l++[v])=Zan c l+(l.map λ u=>c u v).sum
 |[]=>by simp[Zan]
 |u::l=>by
  simp only[jM,Zan,yB,Bm,uX,yT,jD,List.sum_nil,Zmz v l];omega
theorem Zwa {l:List Nat}{v:Nat}(hv:v<n)(hl:v∉l)(f:Nat->Int):sm (λ w=>if w∉l then f w else 0) n=f v+sm (λ w=>if w∉l++[v]then f w else 0) n:=by
 have h:∀w,w<n->(if w∉l then f w else 0)=(if w=v then f v else 0)+(if w∉l++[v]then f w else 0):=λ w _=>by
  by_cases c1:w=v
  ·subst c1;rw[if_pos hl,if_pos rfl,if_neg (by simp)];omega
  ·rw[if_neg c1];by_cases c2:w∈l
   ·rw[if_neg (by simpa using c2),if_neg (by simp[c2])];omega
   ·rw[if_pos c2,if_pos (by simp[c1,c2])];omega
 rw[sm_congr n h,Zj9,Zmo,if_pos hv]
theorem ZmE {f g:Nat->Int}:∀l:List Nat,(l.map λ u=>f u+g u).sum=(l.map f).sum+(l.map g).sum
 |[]=>rfl
 |u::l=>by simp only[uX,jD,ZmE l];omega
theorem Zot {l:List Nat}{v:Nat}(hv:v<n)(hl:v∉l):Zes c n (l++[v])=Zes c n l+Zcx c n l v:=by
 have h1:(l.map λ u=>sm (λ w=>if w∉l then c u w else 0) n)=l.map λ u=>c u v+sm (λ w=>if w∉l++[v]then c u w else 0) n:=
  yE λ u _=>Zwa n hv hl (c u)
 have h2:Zcx c n l v=sm (λ w=>if w∉l++[v]then c v w else 0) n:=sm_congr n λ w _=>by
  by_cases c1:w=v
  ·rw[if_neg (λ h=>h.1 c1),if_neg (by simp[c1])]
  ·by_cases c2:w∈l
   ·rw[if_neg (λ h=>h.2 c2),if_neg (by simp[c2])]
   ·rw[if_pos ⟨c1,c2⟩,if_pos (by simp[c1,c2])]
 rw[Zes,Zes,Zmz,h1,ZmE,h2,yB,Bm];simp only[uX,yT,jD,List.sum_nil];omega
theorem Zpd {l:List Nat}{v:Nat}(hv:v<n)(hl:v∉l):low c n l=ZdG c n l v+low c n (l++[v]):=by
 have key:∀k,sm (λ b=>sm (λ a=>if a∉l/\b∉l then min (c a b) (c b a)else 0) b) k=
   sm (λ w=>if w≠v/\w∉l/\v<k then min (c v w) (c w v)else 0) k+sm (λ b=>sm (λ a=>if a∉l++[v]/\b∉l++[v]then min (c a b) (c b a)else 0) b) k:=by
  intro k
  induction k with
  |zero=>rfl
  |succ k ih=>
   rw[sm,ih,sm,sm];have e0:∀a,(a∉l++[v])↔a∉l/\a≠v:=λ a=>by simp
   by_cases ck:k=v
   ·subst ck;have f1:sm (λ w=>if w≠k/\w∉l/\k<k then min (c k w) (c w k)else 0) k=0:=ZhF k λ w _=>if_neg λ h=>by omega
    have f2:sm (λ a=>if a∉l/\k∉l then min (c a k) (c k a)else 0) k=sm (λ w=>if w≠k/\w∉l/\k<k+1 then min (c k w) (c w k)else 0) k:=sm_congr k λ w hw=>by
     by_cases c2:w∈l
     ·rw[if_neg (λ h=>h.1 c2),if_neg (λ h=>h.2.1 c2)]
     ·rw[if_pos ⟨c2,hl⟩,if_pos ⟨by omega,c2,by omega⟩,Int.min_comm]
    have f3:sm (λ a=>if a∉l++[k]/\k∉l++[k]then min (c a k) (c k a)else 0) k=0:=ZhF k λ w _=>if_neg λ h=>h.2 (by simp)
    rw[f1,f2,f3,if_neg (λ h=>h.1 rfl)];omega
   ·have f1:sm (λ w=>if w≠v/\w∉l/\v<k+1 then min (c v w) (c w v)else 0) k=sm (λ w=>if w≠v/\w∉l/\v<k then min (c v w) (c w v)else 0) k:=sm_congr k λ w _=>by
     by_cases c3:w≠v/\w∉l
     ·by_cases c4:v<k
      ·rw[if_pos ⟨c3.1,c3.2,by omega⟩,if_pos ⟨c3.1,c3.2,c4⟩]
      ·rw[if_neg (λ h=>by omega),if_neg (λ h=>c4 h.2.2)]
     ·rw[if_neg (λ h=>c3 ⟨h.1,h.2.1⟩),if_neg (λ h=>c3 ⟨h.1,h.2.1⟩)]
    rw[f1];by_cases c2:k∈l
    ·have g1:∀m:List Nat,k∈m->sm (λ a=>if a∉m/\k∉m then min (c a k) (c k a)else 0) k=0:=λ m hm=>ZhF k λ w _=>if_neg λ h=>h.2 hm
     rw[g1 l c2,g1 (l++[v]) (by simp[c2]),if_neg (λ h=>h.2.1 c2)];omega
    ·have g2:sm (λ a=>if a∉l/\k∉l then min (c a k) (c k a)else 0) k=(if v<k then min (c v k) (c k v)else 0)+sm (λ a=>if a∉l++[v]/\k∉l++[v]then min (c a k) (c k a)else 0) k:=by
      have:∀a,a<k->(if a∉l/\k∉l then min (c a k) (c k a)else 0)=(if a=v then min (c v k) (c k v)else 0)+(if a∉l++[v]/\k∉l++[v]then min (c a k) (c k a)else 0):=λ a _=>by
       by_cases d1:a=v
       ·subst d1;rw[if_pos ⟨hl,c2⟩,if_pos rfl,if_neg (λ h=>h.1 (by simp))];omega
       ·by_cases d2:a∈l
        ·rw[if_neg (λ h=>h.1 d2),if_neg d1,if_neg (λ h=>h.1 (by simp[d2]))];rfl
        ·rw[if_pos ⟨d2,c2⟩,if_neg d1,if_pos ⟨by simp[d1,d2],by simp[ck,c2]⟩];omega
      rw[sm_congr k this,Zj9,Zmo]
     rw[g2];by_cases c4:v<k
     ·rw[if_pos c4,if_pos ⟨ck,c2,by omega⟩];omega
     ·rw[if_neg c4,if_neg (λ h=>by omega)];omega
 rw[low,key n]
 congr 1
 exact sm_congr n λ w _=>by
  by_cases c3:w≠v/\w∉l
  ·rw[if_pos ⟨c3.1,c3.2,hv⟩,if_pos c3]
  ·rw[if_neg (λ h=>c3 ⟨h.1,h.2.1⟩),if_neg c3]
theorem Zu3 (l:List Nat)(v:Nat):ZdG c n l v<=Zcx c n l v:=ZqO n λ w _=>by
 by_cases h:w≠v/\w∉l
 ·rw[if_pos h,if_pos h];exact Int.min_le_left _ _
 ·rw[if_neg h,if_neg h];exact gC _
theorem ZgQ :∀(n:Nat) (l:List Nat),l.Nodup->(∀v,v∈l->v<n)->l.length<=n
 |0,[],_,_=>uH _
 |0,v::l,_,h=>by have:=h v (by simp);omega
 |n+1,l,hd,h=>by
  have h1:=ZgQ n (l.erase n) (hd.erase n) λ v hv=>by
   have h2:=h v (List.mem_of_mem_erase hv);have h3:v≠n:=(List.Nodup.mem_erase_iff hd).1 hv |>.1
   omega
  rw[List.length_erase]at h1;split at h1<;>omega
theorem Zfj {l:List Nat}(hd:l.Nodup)(hlt:∀v,v∈l->v<n)(hl:l.length=n):∀v,v<n->v∈l:=by
 intro v hv;apply gM;intro hm;have:=ZgQ n (v::l) (yS.2 ⟨hm,hd⟩) λ w hw=>by
  rcases yH.1 hw with rfl|hw
  ·exact hv
  ·exact hlt w hw
 simp at this;omega
theorem Zpc {l:List Nat}(h:∀v,v<n->v∈l):low c n l=0:=ZhF n λ b hb=>ZhF b λ _ _=>if_neg λ h2=>h2.2 (h b hb)
theorem Zlf {l:List Nat}(h:∀v,v<n->v∈l):Zes c n l=Zan c l:=by
 have:(l.map λ u=>sm (λ w=>if w∉l then c u w else 0) n).sum=0:=by
  have:(l.map λ u=>sm (λ w=>if w∉l then c u w else 0) n)=l.map λ _=>0:=yE λ u _=>ZhF n λ w hw=>if_neg λ h2=>h2 (h w hw)
  rw[this];clear this h
  induction l with
  |nil=>rfl
  |cons u l ih=>simp only[uX,jD,ih];rfl
 rw[Zes,this];omega
theorem Zsy {α:Type}{x y:Option (α×Int)}{k:Int}(hx:∀s,x=some s->k<=s.2)(hy:∀s,y=some s->k<=s.2):∀s,Za5 x y=some s->k<=s.2:=by
 intro s h;rcases x with _|x<;>rcases y with _|y<;>simp only[Za5]at h
 ·cases h
 ·exact hy s h
 ·exact hx s h
 ·split at h
  ·exact hy s h
  ·exact hx s h
theorem Zov {α:Type}{B:Nat->Option (α×Int)}{k:Int}:∀(L:List Nat),(∀v,v∈L->∀s,B v=some s->k<=s.2)->∀(st:Option (α×Int)),(∀s,st=some s->k<=s.2)->∀s,L.foldl (λ st v=>Za5 st (B v)) st=some s->k<=s.2
 |[],_,_,h=>h
 |v::L,hB,st,h=>Zov L (λ w hw=>hB w (uM _ hw)) _ (Zsy h (hB v (by simp)))
structure Part (f:Nat)(l:List Nat):Prop where
 nd:l.Nodup
 lt:∀v,v∈l->v<n
 len:l.length+f=n
variable {n}
theorem Part.snoc {f:Nat}{l:List Nat}(h:Part n (f+1) l){v:Nat}(hv:v<n)(hl:v∉l):Part n f (l++[v]):=by
 refine⟨?_,?_,by have:=h.len;simp;omega⟩
 ·rw[gV];refine⟨h.nd,by simp,?_⟩;intro a ha b hb;rw[uR]at hb;subst hb;rintro rfl;exact hl ha
 ·intro w hw;rcases yN.1 hw with hw|hw
  ·exact h.lt w hw
  ·rw[uR.1 hw];exact hv
theorem ZkL :∀(f:Nat) (l:List Nat),Part n f l->∀s,Zbf c n f l=some s->Zes c n l+low c n l<=s.2
 |0,l,h,s,hs=>by
  have hf:=Zfj n h.nd h.lt (by have:=h.len;omega);rw[Zbf]at hs;cases hs;rw[Zlf c n hf,Zpc c n hf];dsimp only;omega
 |f+1,l,h,s,hs=>by
  rw[Zbf]at hs;refine Zov (k:=Zes c n l+low c n l) (B:=λ v=>if v∈l then none else Zbf c n f (l++[v])) (List.range n) (λ v hv t ht=>?_) none (λ _ h=>by cases h) s hs;by_cases hm:v∈l
  ·rw[if_pos hm]at ht;cases ht
  ·rw[if_neg hm]at ht;have hv:=yD.1 hv;have ih:=ZkL f (l++[v]) (h.snoc hv hm) t ht;have e1:=Zot c n hv hm;have e2:=Zpd c n hv hm;have e3:=Zu3 c n l v;omega
theorem ZqH {st x:Option (List Nat×Int)}{k:Int}(h:ZcG st k=true)(hx:∀s,x=some s->k<=s.2):Za5 st x=st:=by
 rcases st with _|s
 ·cases h
 ·rcases x with _|y
  ·rfl
  ·have h1:=hx y rfl;simp only[ZcG,uG]at h;simp only[Za5];rw[if_neg (by omega)]
theorem ext_best :∀(f:Nat) (l:List Nat),Part n f l->∀st,ZbK c n f l (Zes c n l) (low c n l) st=Za5 st (Zbf c n f l)
 |0,l,h,st=>by
  have hf:=Zfj n h.nd h.lt (by have:=h.len;omega);have hb:=ZkL c 0 l h;rw[ZbK];split
  ·rename_i hs;exact(ZqH hs hb).symm
  ·rename_i hs;rw[Zbf,Zlf c n hf];rcases st with _|s
   ·rfl
   ·simp only[Za5];rw[Zpc c n hf,Zlf c n hf]at hs;simp only[ZcG,uG,jU]at hs;rw[if_pos (by omega)]
 |f+1,l,h,st=>by
  have hb:=ZkL c (f+1) l h;rw[ZbK];split
  ·rename_i hs;exact(ZqH hs hb).symm
  ·rw[Zbf,<-Zli (λ v=>if v∈l then none else Zbf c n f (l++[v])) (List.range n) st];have:∀(L:List Nat),(∀v,v∈L->v<n)->∀st,L.foldl (λ st v=>if v∈l then st else ZbK c n f (l++[v]) (Zes c n l+Zcx c n l v) (low c n l-ZdG c n l v) st) st=L.foldl (λ st v=>Za5 st (if v∈l then none else Zbf c n f (l++[v]))) st:=by
    intro L
    induction L with
    |nil=>intro _ _;rfl
    |cons v L ih=>
     intro hL st;rw[jB,jB,ih λ w hw=>hL w (uM _ hw)]
     congr 1
     by_cases hm:v∈l
     ·rw[if_pos hm,if_pos hm,ZhY]
     ·rw[if_neg hm,if_neg hm];have hv:=hL v (by simp);have e1:=Zot c n hv hm;have e2:=Zpd c n hv hm;rw[<-e1,show low c n l-ZdG c n l v=low c n (l++[v]) by omega];exact ext_best f (l++[v]) (h.snoc hv hm) st
   exact this (List.range n) (λ v hv=>yD.1 hv) st
theorem Zow {α:Type}{B:Nat->Option (α×Int)}:∀(L:List Nat) (st:Option (α×Int)) (s:α×Int),L.foldl (λ st v=>Za5 st (B v)) st=some s->st=some s\/∃v,v∈L/\B v=some s
 |[],_,_,h=> .inl h
 |v::L,st,s,h=>by
  rcases Zow L _ s h with h1|⟨w,h1,h2⟩
  ·dsimp only at h1;rcases st with _|x
   ·exact .inr ⟨v,by simp,h1⟩
   ·cases hB:B v with
    |none=>rw[hB,ZhY]at h1;exact .inl h1
    |some y=>
     rw[hB]at h1;simp only[Za5]at h1;split at h1
     ·exact .inr ⟨v,by simp,by rw[hB];exact h1⟩
     ·exact .inl h1
  ·exact .inr ⟨w,uM _ h1,h2⟩
theorem Zsx {α:Type}(x y:Option (α×Int)){s:α×Int}(h:x=some s\/y=some s):∃t,Za5 x y=some t/\t.2<=s.2:=by
 rcases x with _|x<;>rcases y with _|y
 ·rcases h with h|h<;>cases h
 ·rcases h with h|h<;>cases h
  exact⟨_,rfl,gC _⟩
 ·rcases h with h|h<;>cases h
  exact⟨_,rfl,gC _⟩
 ·simp only[Za5];by_cases c:y.2<x.2
  ·rw[if_pos c];refine⟨_,rfl,?_⟩;rcases h with h|h<;>cases h<;>omega
  ·rw[if_neg c];refine⟨_,rfl,?_⟩;rcases h with h|h<;>cases h<;>omega
theorem Zlh {α:Type}{B:Nat->Option (α×Int)}:∀(L:List Nat) (st:Option (α×Int)) (s:α×Int),(st=some s\/∃v,v∈L/\B v=some s)->∃t,L.foldl (λ st v=>Za5 st (B v)) st=some t/\t.2<=s.2
 |[],st,s,h=>by
  rcases h with h|⟨v,hv,_⟩
  ·exact⟨s,h,gC _⟩
  ·cases hv
 |v::L,st,s,h=>by
  have go:(st=some s\/B v=some s)->∃t,(v::L).foldl (λ st v=>Za5 st (B v)) st=some t/\t.2<=s.2:=λ h=>by
   obtain⟨t,h1,h2⟩:=Zsx st (B v) h;obtain⟨u,h3,h4⟩:=Zlh L (Za5 st (B v)) t (.inl h1);exact⟨u,h3,by omega⟩
  rcases h with h|⟨w,hw,hB⟩
  ·exact go (.inl h)
  ·rcases yH.1 hw with rfl|hw
   ·exact go (.inr hB)
   ·exact Zlh L _ s (.inr ⟨w,hw,hB⟩)
theorem best_of :∀(f:Nat) (l:List Nat),Part n f l->∀s,Zbf c n f l=some s->Part n 0 s.1/\l<+:s.1/\s.2=Zan c s.1
 |0,l,h,s,hs=>by rw[Zbf]at hs;cases hs;exact⟨h,List.prefix_refl _,rfl⟩
 |f+1,l,h,s,hs=>by
  rw[Zbf]at hs;rcases Zow (B:=λ v=>if v∈l then none else Zbf c n f (l++[v])) _ _ _ hs with h1|⟨v,hv,h1⟩
  ·cases h1
  ·by_cases hm:v∈l
   ·rw[if_pos hm]at h1;cases h1
   ·rw[if_neg hm]at h1;obtain⟨g1,g2,g3⟩:=best_of f (l++[v]) (h.snoc (yD.1 hv) hm) s h1;exact⟨g1,(List.prefix_append l [v]).trans g2,g3⟩
end bound
section pairs
theorem ZfA (c d:Nat->Nat->Int):∀l:List Nat,Zan (λ u v=>c u v+d u v) l=Zan c l+Zan d l
 |[]=>rfl
 |u::l=>by
  have:=ZmE (f:=c u) (g:=d u) l;simp only[Zan,ZfA c d l];omega
theorem ZfB :∀l:List Nat,Zan (λ _ _=>0) l=0
 |[]=>rfl
 |u::l=>by
  have:(l.map λ _=>(0:Int)).sum=0:=by
   clear u
   induction l with
   |nil=>rfl
   |cons _ l ih=>simp only[uX,jD,ih];rfl
  simp only[Zan,ZfB l,this];rfl
theorem Zq7 (b:Nat)(x:Int):∀l:List Nat,l.Nodup->(l.map λ v=>if v=b then x else 0).sum=if b∈l then x else 0
 |[],_=>rfl
 |u::l,h=>by
  obtain⟨h1,h2⟩:=yS.1 h;have ih:=Zq7 b x l h2;simp only[uX,jD,ih,yH];by_cases c:u=b
  ·subst c;rw[if_pos rfl,if_neg h1,if_pos (.inl rfl)];omega
  ·rw[if_neg c];by_cases c2:b∈l
   ·rw[if_pos c2,if_pos (.inr c2)];omega
   ·rw[if_neg c2,if_neg (by rintro(h|h);exact c h.symm;exact c2 h)];rfl
theorem Zlr {u b:Nat}{l:List Nat}(h:¬u=b):(u::l).idxOf b=l.idxOf b+1:=by
 have:(u==b)=false:=by simpa using h
 rw[List.idxOf_cons,this];rfl
theorem Zmx (a b:Nat)(x:Int):∀l:List Nat,l.Nodup->a∈l->b∈l->Zan (λ u v=>if u=a/\v=b then x else 0) l=if l.idxOf a<l.idxOf b then x else 0
 |[],_,h,_=>by cases h
 |u::l,hn,ha,hb=>by
  obtain⟨h1,h2⟩:=yS.1 hn;have none:∀(m:List Nat),(∀w,w∈m->¬w=a)->Zan (λ u v=>if u=a/\v=b then x else 0) m=0:=by
   intro m
   induction m with
   |nil=>intro _;rfl
   |cons w m ih=>
    intro h;have e:(m.map λ v=>if w=a/\v=b then x else 0)=m.map λ _=>0:=yE λ v _=>if_neg λ h3=>h w (by simp) h3.1
    have z:(m.map λ _=>(0:Int)).sum=0:=by
     clear ih h e
     induction m with
     |nil=>rfl
     |cons _ m ih=>simp only[uX,jD,ih];rfl
    simp only[Zan,e,z,ih λ v hv=>h v (uM _ hv)];rfl
  have none2:∀(m:List Nat),b∉m->Zan (λ u v=>if u=a/\v=b then x else 0) m=0:=by
   intro m
   induction m with
   |nil=>intro _;rfl
   |cons w m ih=>
    intro h;have e:(m.map λ v=>if w=a/\v=b then x else 0)=m.map λ _=>0:=yE λ v hv=>if_neg λ h3=>h (by rw[<-h3.2];exact uM _ hv)
    have z:(m.map λ _=>(0:Int)).sum=0:=by
     clear ih h e
     induction m with
     |nil=>rfl
     |cons _ m ih=>simp only[uX,jD,ih];rfl
    simp only[Zan,e,z,ih λ hv=>h (uM _ hv)];rfl
  rw[Zan];by_cases c:u=a
  ·subst c;rw[none l λ w hw he=>h1 (he▸hw)];have e:(l.map λ v=>if u=u/\v=b then x else 0)=l.map λ v=>if v=b then x else 0:=yE λ v _=>by simp
   rw[e,Zq7 b x l h2,Bk];by_cases c2:b=u
   ·subst c2;rw[if_neg h1,Bk,if_neg (by omega)];rfl
   ·have hbl:b∈l:=by
     rcases yH.1 hb with h|h
     ·exact absurd h c2
     ·exact h
    have:(u::l).idxOf b=l.idxOf b+1:=Zlr (l:=l) (λ h=>c2 h.symm);rw[if_pos hbl,this,if_pos (by omega)];omega
  ·have e:(l.map λ v=>if u=a/\v=b then x else 0)=l.map λ _=>0:=yE λ v _=>if_neg λ h=>c h.1
   have z:(l.map λ _=>(0:Int)).sum=0:=by
    clear e none none2 h1 h2 hn ha hb c
    induction l with
    |nil=>rfl
    |cons _ l ih=>simp only[uX,jD,ih];rfl
   have hal:a∈l:=by
    rcases yH.1 ha with h|h
    ·exact absurd h.symm c
    ·exact h
   have ia:(u::l).idxOf a=l.idxOf a+1:=Zlr (l:=l) c;rw[e,z,ia];by_cases c2:b=u
   ·subst c2;rw[none2 l h1,Bk,if_neg (by omega)];rfl
   ·have hbl:b∈l:=by
     rcases yH.1 hb with h|h
     ·exact absurd h c2
     ·exact h
    have ib:(u::l).idxOf b=l.idxOf b+1:=Zlr (l:=l) (λ h=>c2 h.symm);rw[ib,Zmx a b x l h2 hal hbl];by_cases c3:l.idxOf a<l.idxOf b
    ·rw[if_pos c3,if_pos (by omega)];omega
    ·rw[if_neg c3,if_neg (by omega)];rfl
end pairs
section bound
variable (c:Nat->Nat->Int)(n:Nat)
theorem sm_bounds {f:Nat->Int}{K:Int}:∀n:Nat,(∀k,k<n->0<=f k/\f k<=K)->0<=sm f n/\sm f n<=K*n
 |0,_=>by simp[sm]
 |n+1,h=>by
  have ih:=sm_bounds n λ k hk=>h k (by omega)
  have:=h n (by omega);rw[sm,qI,zW];omega
def Zbo (f:Nat)(l:List Nat)(cost rest:Int)(st:Option (List Nat×Int))(k:Nat):Option (List Nat×Int):=
 (List.range k).foldl (λ st v=>if v∈l then st else ZbK c n f (l++[v]) (cost+Zcx c n l v) (rest-ZdG c n l v) st) st
theorem foldE_zero (f:Nat)(l:List Nat)(cost rest:Int)(st:Option (List Nat×Int)):Zbo c n f l cost rest st 0=st:=rfl
theorem foldE_in {f:Nat}{l:List Nat}{cost rest:Int}{st:Option (List Nat×Int)}{k:Nat}(h:k∈l):Zbo c n f l cost rest st (k+1)=Zbo c n f l cost rest st k:=by
 rw[Zbo,gG,List.foldl_append,jB,Bz,if_pos h];rfl
theorem foldE_out {f:Nat}{l:List Nat}{cost rest:Int}{st:Option (List Nat×Int)}{k:Nat}(h:k∉l):
  Zbo c n f l cost rest st (k+1)=ZbK c n f (l++[k]) (cost+Zcx c n l k) (rest-ZdG c n l k) (Zbo c n f l cost rest st k):=by
 rw[Zbo,gG,List.foldl_append,jB,Bz,if_neg h];rfl
theorem ext_foldE (f:Nat)(l:List Nat)(cost rest:Int)(st:Option (List Nat×Int)):ZbK c n (f+1) l cost rest st=if ZcG st (cost+rest)then st else Zbo c n f l cost rest st n:=rfl
variable {c n}
def Zby (c:Nat->Nat->Int)(n:Nat):Prop:=∀u v,u<n->v<n->0<=c u v/\c u v<=1000000
theorem more_bounds (hc:Zby c n)(l:List Nat){v:Nat}(hv:v<n)(k:Nat)(hk:k<=n):0<=sm (λ w=>if w≠v/\w∉l then c v w else 0) k/\sm (λ w=>if w≠v/\w∉l then c v w else 0) k<=1000000*k:=
 sm_bounds k λ w hw=>by
  have:=hc v w hv (by omega);split<;>omega
theorem less_bounds (hc:Zby c n)(l:List Nat){v:Nat}(hv:v<n)(k:Nat)(hk:k<=n):0<=sm (λ w=>if w≠v/\w∉l then min (c v w) (c w v)else 0) k/\sm (λ w=>if w≠v/\w∉l then min (c v w) (c w v)else 0) k<=1000000*k:=
 sm_bounds k λ w hw=>by
  have:=hc v w hv (by omega);have:=hc w v (by omega) hv;split<;>omega
theorem Zq6 {f:Nat->Int}{K:Int}:∀l:List Nat,(∀k,k∈l->0<=f k/\f k<=K)->0<=(l.map f).sum/\(l.map f).sum<=K*l.length
 |[],_=>by simp
 |u::l,h=>by
  have ih:=Zq6 l λ k hk=>h k (by simp[hk])
  have:=h u (by simp);rw[uX,jD,uV,qI,zW];omega
theorem ZqY (hc:Zby c n):∀l:List Nat,(∀v,v∈l->v<n)->l.length<=8->0<=Zan c l/\Zan c l<=8000000*l.length
 |[],_,_=>by simp[Zan]
 |u::l,h,hl=>by
  rw[uV]at hl;have ih:=ZqY hc l (λ v hv=>h v (by simp[hv])) (by omega);have:=Zq6 (f:=c u) (K:=1000000) l λ k hk=>hc u k (h u (by simp)) (h k (by simp[hk]))
  rw[Zan,uV,qI,zW];omega
theorem all_len :∀(n:Nat) (l:List Nat),(∀v,v<n->v∈l)->n<=l.length
 |0,_,_=>uJ _
 |n+1,l,h=>by
  have hn:=h n (by omega);have ih:=all_len n (l.erase n) λ v hv=>(Bl (by omega)).2 (h v (by omega))
  rw[zP hn]at ih;have:=Ay hn;omega
theorem best_some :∀(f:Nat) (l:List Nat),Part n f l->∃s,Zbf c n f l=some s
 |0,l,_=>⟨_,rfl⟩
 |f+1,l,h=>by
  have hex:∃v,v<n/\v∉l:=by
   apply gM;intro hno;have hall:∀v,v<n->v∈l:=λ v hv=>gM λ hm=>hno ⟨v,hv,hm⟩
   have h3:=all_len n l hall;have:=h.len;omega
  obtain⟨v,hv,hm⟩:=hex;obtain⟨s,hs⟩:=best_some f (l++[v]) (h.snoc hv hm);obtain⟨t,ht,_⟩:=Zlh (B:=λ v=>if v∈l then none else Zbf c n f (l++[v])) (List.range n) none s (.inr ⟨v,yD.2 hv,by rw[if_neg hm];exact hs⟩);exact⟨t,ht⟩
theorem ZqI {st:Option (List Nat×Int)}{x:Int}(h:ZcG st x=true):∃s,st=some s:=by
 rcases st with _|s
 ·cases h
 ·exact⟨s,rfl⟩
theorem Zua {f:Nat}{l:List Nat}(h:Part n (f+1) l):∃v,v<n/\v∉l:=by
 apply gM;intro hno;have hall:∀v,v<n->v∈l:=λ v hv=>gM λ hm=>hno ⟨v,hv,hm⟩
 have h3:=all_len n l hall;have:=h.len;omega
theorem ext_some :∀(f:Nat) (l:List Nat),Part n f l->∀(cost rest:Int) (st:Option (List Nat×Int)),∃s,ZbK c n f l cost rest st=some s
 |0,l,h,cost,rest,st=>by
  rw[ZbK];split
  ·rename_i hs;exact ZqI hs
  ·exact⟨_,rfl⟩
 |f+1,l,h,cost,rest,st=>by
  rw[ext_foldE];split
  ·rename_i hs;exact ZqI hs
  ·obtain⟨v,hv,hm⟩:=Zua h;have key:∀k,v<k->k<=n->∃s,Zbo c n f l cost rest st k=some s:=by
    intro k
    induction k with
    |zero=>intro h;omega
    |succ k ih=>
     intro h1 h2;by_cases hk:k∈l
     ·rw[foldE_in c n hk];have:v≠k:=λ e=>hm (e▸hk)
      exact ih (by omega) (by omega)
     ·rw[foldE_out c n hk];exact ext_some f (l++[k]) (h.snoc (by omega) hk) _ _ _
   exact key n hv (uH _)
theorem best_bounds (hc:Zby c n)(h8:n<=8){f:Nat}{l:List Nat}(h:Part n f l){s:List Nat×Int}(hs:Zbf c n f l=some s):0<=s.2/\s.2<=64000000/\s.1.length=n/\∀v,v∈s.1->v<n:=by
 obtain⟨g1,g2,g3⟩:=best_of c f l h s hs;have hl:=g1.len;have:=ZqY hc s.1 g1.lt (by omega);refine⟨by omega,by omega,by omega,g1.lt⟩
end bound
def Zcl (old order:List Int):Nat->List Int
 |0=>[]
 |i+1=>match order[i]? with
  |some v=>if v∈old/\v∉order.take i then Zcl old order i++[v]else Zcl old order i
  |none=>Zcl old order i
def ZdE (f:Int->Nat):List Int->Nat
 |[]=>0
 |u::l=>l.countP (λ v=>decide (f v<f u))+ZdE f l
def Zc5 (old order:List Int):Nat:=ZdE (λ v=>old.idxOf v) (Zcl old order order.length)
def ix (l:List Int)(v:Int):Int:=if v∈l then(l.idxOf v:Int)else -1
def ZhB (old order:List Int)(v:Int)(k:Nat):Bool:=match order[k]? with
 |some u=>decide (ix order u=(k:Int))&&decide (ix old v<ix old u)
 |none=>false
def ZbX (old order:List Int):Nat->Nat
 |0=>0
 |i+1=>match order[i]? with
  |some v=>if ix order v=(i:Int)/\0<=ix old v then ZbX old order i+(List.range i).countP (ZhB old order v)else ZbX old order i
  |none=>ZbX old order i
def Zho (old:List Int)(g:Nat->Int)(u v:Nat):Int:=if g u∈old/\g v∈old/\old.idxOf (g v)<old.idxOf (g u)then 1 else 0
theorem Zmy (w:Int)(c:Nat->Nat->Int):∀l:List Nat,Zan (λ u v=>w*c u v) l=w*Zan c l
 |[]=>by simp[Zan]
 |u::l=>by
  have e:∀m:List Nat,(m.map λ v=>w*c u v).sum=w*(m.map (c u)).sum:=λ m=>by
   induction m with
   |nil=>simp
   |cons v m ih=>simp only[uX,jD,ih,zW]
  simp only[Zan];rw[Zmy w c l,e,zW]
theorem Zq9 (f:Nat->Int):∀n,((List.range n).map f).sum=sm f n
 |0=>rfl
 |n+1=>by rw[gG,yB,Bm,Zq9 f n,sm];simp
theorem sumC_range (c:Nat->Nat->Int):∀n,Zan c (List.range n)=sm (λ A=>sm (λ j=>c A (A+1+j)) (n-1-A)) n
 |0=>rfl
 |n+1=>by
  rw[gG,Zmz,sumC_range c n,Zq9,<-Zj9,sm];have e:sm (λ j=>c n (n+1+j)) (n+1-1-n)=0:=by
   rw[show n+1-1-n=0 by omega];rfl
  rw[e,jU];refine sm_congr n λ A hA=>?_
  rw[show n+1-1-A=(n-1-A)+1 by omega,sm,show A+1+(n-1-A)=n by omega]
end Go.Bd
namespace Go.Stb
structure Ord {α:Type}(R:α->α->Prop):Prop where
 asymm:∀a b,R a b->¬R b a
 trans:∀a b c,R a b->R b c->R a c
 total:∀a b,a≠b->R a b\/R b a
variable {α:Type}{R:α->α->Prop}
theorem ZgY (h:Ord R){l m:List α}(hp:l.Perm m)(hl:l.Pairwise R)(hm:m.Pairwise R):l=m:=
 Ao (le:=R) (λ a b _ _ h1 h2=>absurd h2 (h.asymm a b h1)) hl hm hp
theorem Zhi (h:Ord R){l:List α}(hn:l.Nodup):∃m:List α,m.Perm l/\m.Pairwise R:=by
 induction l with
 |nil=>exact⟨[],zH _,List.Pairwise.nil⟩
 |cons x l ih=>
  rw[yS]at hn;obtain⟨m,hp,hs⟩:=ih hn.2;have hx:∀y,y∈m->y≠x:=λ y hy e=>hn.1 (hp.mem_iff.1 (e▸hy))
  have key:∀m:List α,m.Pairwise R->(∀y,y∈m->y≠x)->∃k:List α,k.Perm (x::m)/\k.Pairwise R:=by
   intro m
   induction m with
   |nil=>intro _ _;exact⟨[x],zH _,jY _ _⟩
   |cons y m ih2=>
    intro hs hx;rw[jG]at hs;rcases h.total y x (hx y (by simp))with h1|h1
    ·obtain⟨k,hk,hks⟩:=ih2 hs.2 λ z hz=>hx z (uM _ hz)
     refine⟨y::k,(hk.cons y).trans (List.Perm.swap x y m),jG.2 ⟨λ z hz=>?_,hks⟩⟩;rcases yH.1 (hk.mem_iff.1 hz)with rfl|hz
     ·exact h1
     ·exact hs.1 z hz
    ·refine⟨x::y::m,zH _,jG.2 ⟨λ z hz=>?_,jG.2 hs⟩⟩;rcases yH.1 hz with rfl|hz
     ·exact h1
     ·exact h.trans x y z h1 (hs.1 z hz)
  obtain⟨k,hk,hks⟩:=key m hs hx;exact⟨k,hk.trans (hp.cons x),hks⟩
theorem ZyO (h:Ord R){t u v:List α}(hp:t.Perm (u++v))(hs:t.Pairwise R)(hb:∀a,a∈u->∀b,b∈v->R a b)(hn:(u++v).Nodup):
  ∃u' v':List α,t=u'++v'/\u'.Perm u/\v'.Perm v/\u'.Pairwise R/\v'.Pairwise R:=by
 rw[gV]at hn;obtain⟨u',pu,su⟩:=Zhi h hn.1;obtain⟨v',pv,sv⟩:=Zhi h hn.2.1;refine⟨u',v',?_,pu,pv,su,sv⟩;refine ZgY h (hp.trans (pu.append pv).symm) hs (yX.2 ⟨su,sv,λ a ha b hb2=>hb a (pu.mem_iff.1 ha) b (pv.mem_iff.1 hb2)⟩)
theorem ZuD {x:α}{l m:List α}(h:Ord R)(hs:(l++m).Pairwise R)(hl:∀a,a∈l->R a x)(hm:∀a,a∈m->R x a):(l++x::m).Pairwise R:=by
 rw[yX]at hs|-;refine⟨hs.1,jG.2 ⟨hm,hs.2.1⟩,λ a ha b hb=>?_⟩;rcases yH.1 hb with rfl|hb
 ·exact hl a ha
 ·exact hs.2.2 a ha b hb
theorem Zlo {a1 a2 b1 b2:List α}(h:Ord R)(hl:(a1++a2).Pairwise R)(hr:(b1++b2).Pairwise R)
  (h1:∀x,a1.getLast?=some x->∀y,b2.head?=some y->R x y)(h2:∀x,b1.getLast?=some x->∀y,a2.head?=some y->R x y):
  ∀x,x∈a1++b1->∀y,y∈a2++b2->R x y:=by
 have le_last:∀(l:List α) x z,l.Pairwise R->l.getLast?=some z->x∈l->x=z\/R x z:=by
  intro l x z hs hz hx;obtain⟨l',rfl⟩:∃l',l=l'++[z]:=by
   rcases Bb l with rfl|⟨l',w,rfl⟩
   ·simp at hz
   ·refine⟨l',?_⟩;rw[Bc]at hz|-;simp at hz;rw[hz]
  rcases yN.1 hx with hx|hx
  ·exact .inr ((yX.1 hs).2.2 x hx z (by simp))
  ·exact .inl (uR.1 hx)
 have Zlq:∀(l:List α) x z,l.Pairwise R->l.head?=some z->x∈l->x=z\/R z x:=by
  intro l x z hs hz hx;cases l with
  |nil=>cases hx
  |cons w l=>
   have:w=z:=by simpa using hz
   subst this;rcases yH.1 hx with rfl|hx
   ·exact .inl rfl
   ·exact .inr ((jG.1 hs).1 x hx)
 obtain⟨sa1,sa2,sa⟩:=yX.1 hl;obtain⟨sb1,sb2,sb⟩:=yX.1 hr;have cross:∀(u v:List α),u.Pairwise R->v.Pairwise R->(∀x,u.getLast?=some x->∀y,v.head?=some y->R x y)->∀x,x∈u->∀y,y∈v->R x y:=by
  intro u v su sv huv x hx y hy;obtain⟨z,hz⟩:∃z,u.getLast?=some z:=by
   cases hu:u.getLast? with
   |none=>rw[List.getLast?_eq_none_iff]at hu;subst hu;cases hx
   |some z=>exact⟨z,rfl⟩
  obtain⟨w,hw⟩:∃w,v.head?=some w:=by
   cases v with
   |nil=>cases hy
   |cons w v=>exact⟨w,rfl⟩
  have hzw:=huv z hz w hw;have hxw:R x w:=by
   rcases le_last u x z su hz hx with rfl|h3
   ·exact hzw
   ·exact h.trans x z w h3 hzw
  rcases Zlq v y w sv hw hy with rfl|h4
  ·exact hxw
  ·exact h.trans x w y hxw h4
 intro x hx y hy;rcases yN.1 hx with hx|hx<;>rcases yN.1 hy with hy|hy
 ·exact sa x hx y hy
 ·exact cross a1 b2 sa1 sb2 h1 x hx y hy
 ·exact cross b1 a2 sb1 sa2 h2 x hx y hy
 ·exact sb x hx y hy
def ZiB (l:List Int):Bool:=decide (l.length<=4096)&&l.all λ x=>decide (0<=x/\x<=1048576)
def ZaB (l:List Int):Nat:=if ZiB l then l.length else 0
def Zba (l:List Int):Int:=if ZiB l then l.sum else 0
def sg (a b:Int):Int:=if a<b then -1 else if b<a then 1 else 0
def ZbR (a b:List Int):Int:=
 if ZaB a=0\/ZaB b=0 then sg (min (ZaB a) 1:Nat) (min (ZaB b) 1:Nat)else sg (Zba a*ZaB b) (Zba b*ZaB a)
theorem ZqG (a b:Int):sg a b=-sg b a:=by
 unfold sg;split<;>split<;>omega
theorem ZkY (a b:List Int):ZbR a b=-ZbR b a:=by
 unfold ZbR;by_cases h:ZaB a=0\/ZaB b=0
 ·rw[if_pos h,if_pos h.symm,ZqG]
 ·rw[if_neg h,if_neg (λ c=>h c.symm),ZqG]
theorem Zx0 {a b:Int}:sg a b<0↔a<b:=by unfold sg;split<;>(try split)<;>omega
theorem ZkZ {a b:List Int}:ZbR a b<0↔(ZaB a=0/\0<ZaB b)\/(0<ZaB a/\0<ZaB b/\Zba a*ZaB b<Zba b*ZaB a):=by
 unfold ZbR;split<;>rw[Zx0]<;>omega
theorem ZnV {a b:List Int}(h:ZbR a b<0):¬ZbR b a<0:=by have:=ZkY a b;omega
theorem Zvo {x y:Int}{n:Nat}(hn:0<n)(h:x*n<=y*n):x<=y:=Int.le_of_mul_le_mul_right h (by omega)
theorem Zk0 {a c:List Int}(b:List Int)(h:ZbR a c<0):ZbR a b<0\/ZbR b c<0:=by
 rw[ZkZ]at h;rw[ZkZ,ZkZ];rcases h with⟨h1,h2⟩|⟨h1,h2,h3⟩
 ·rcases qT (ZaB b)with c1|c1
  ·exact .inr (.inl ⟨c1,h2⟩)
  ·exact .inl (.inl ⟨h1,c1⟩)
 ·rcases qT (ZaB b)with c1|c1
  ·exact .inr (.inl ⟨c1,h2⟩)
  ·by_cases c2:Zba a*ZaB b<Zba b*ZaB a
   ·exact .inl (.inr ⟨h1,c1,c2⟩)
   ·by_cases c3:Zba b*ZaB c<Zba c*ZaB b
    ·exact .inr (.inr ⟨c1,h2,c3⟩)
    ·exfalso;have e1:Zba b*ZaB a*ZaB c<=Zba a*ZaB b*ZaB c:=zU (by omega) (by omega);have e2:Zba c*ZaB b*ZaB a<=Zba b*ZaB c*ZaB a:=zU (by omega) (by omega);have e3:Zba c*ZaB a*ZaB b<=Zba a*ZaB c*ZaB b:=by
      have s1:Zba c*ZaB b*ZaB a=Zba c*ZaB a*ZaB b:=by rw[Ap,Int.mul_comm (ZaB b:Int),<-Ap]
      have s2:Zba b*ZaB c*ZaB a=Zba b*ZaB a*ZaB c:=by rw[Ap,Int.mul_comm (ZaB c:Int),<-Ap]
      have s3:Zba a*ZaB b*ZaB c=Zba a*ZaB c*ZaB b:=by rw[Ap,Int.mul_comm (ZaB b:Int),<-Ap]
      omega
     have:=Zvo c1 e3;omega
def Zfp (p:Nat->List Int)(j k:Nat):Prop:=ZbR (p j) (p k)<0\/(¬ZbR (p k) (p j)<0/\j<k)
theorem ZpJ (p:Nat->List Int):Ord (Zfp p) where
 asymm:=λ a b h1 h2=>by
  rcases h1 with h1|⟨h1,h3⟩<;>rcases h2 with h2|⟨h2,h4⟩
  ·exact ZnV h1 h2
  ·exact h2 h1
  ·exact h1 h2
  ·omega
 trans:=λ a b c h1 h2=>by
  rcases h1 with h1|⟨h1,h3⟩
  ·rcases Zk0 (p c) h1 with h|h
   ·exact .inl h
   ·rcases h2 with h2|⟨h2,h4⟩
    ·exact absurd h (ZnV h2)
    ·exact absurd h h2
  ·rcases h2 with h2|⟨h2,h4⟩
   ·rcases Zk0 (p a) h2 with h|h
    ·exact absurd h h1
    ·exact .inl h
   ·refine .inr ⟨λ h=>?_,by omega⟩;rcases Zk0 (p b) h with h|h
    ·exact h2 h
    ·exact h1 h
 total:=λ a b h=>by
  by_cases h1:ZbR (p a) (p b)<0
  ·exact .inl (.inl h1)
  ·by_cases h2:ZbR (p b) (p a)<0
   ·exact .inr (.inl h2)
   ·rcases uF a b with h3|h3
    ·exact .inl (.inr ⟨h2,h3⟩)
    ·exact .inr (.inr ⟨h1,by omega⟩)
theorem Zv7 {p:Nat->List Int}{j k:Nat}(h:j<k):ZbR (p k) (p j)<0↔Zfp p k j:=
 ⟨λ c=> .inl c,λ c=>by
  rcases c with c|⟨_,c⟩
  ·exact c
  ·omega⟩
theorem ZoS {l:List Int}{c:Nat}(h:∀x,x∈l->0<=x/\x<=c):0<=l.sum/\l.sum<=((l.length*c:Nat):Int):=by
 induction l with
 |nil=>simp
 |cons x l ih=>
  have h1:=ih λ y hy=>h y (uM _ hy)
  have h2:=h x (by simp);rw[jD,uV,qE];omega
theorem Ztd (l:List Int):ZaB l<=4096:=by
 unfold ZaB ZiB;split
 ·rename_i h;simp only[uO,uG]at h;exact h.1
 ·omega
theorem Zy7 (l:List Int):0<=Zba l/\Zba l<=4294967296:=by
 unfold Zba;split
 ·rename_i h;simp only[ZiB,uO,uG,uW]at h;have h1:=ZoS (c:=1048576) h.2;have h2:l.length*1048576<=4096*1048576:=yF _ h.1;omega
 ·omega
theorem Zp0 (a b:List Int):0<=Zba a*ZaB b/\Zba a*ZaB b<=17592186044416:=by
 have h1:=Zy7 a;have h2:=Ztd b;constructor
 ·exact Int.mul_nonneg h1.1 (by omega)
 ·have h3:Zba a*ZaB b<=4294967296*(ZaB b:Int):=zU h1.2 (by omega);omega
end Go.Stb
