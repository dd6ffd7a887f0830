/- Ordering: what it computes (no program in sight). -/
import Derived.Test.YtjjbhjnpeenbkaaGreatDoorStM
set_option linter.unusedSimpArgs false
set_option linter.unusedVariables false
set_option maxHeartbeats 16000000
namespace Go.Proofs.YtjjbhjnpeenbkaaGreatDoor
open Go Go.PS Go.Proofs
open Go.Bd (Zat Part ZiI)
def orM (a:Lv)(i:Nat):List (List Int):=stM a [] (Zay a.2.1 i) 0 i
theorem Zsh (a:Lv)(i:Nat):(orM a i).length=(Zay a.2.1 i).length:=ZlU ..
theorem Zsi (a:Lv)(i:Nat){o:List Nat}(ho:Part (Zay a.2.1 i).length 0 o):Zat (Zak (orM a i)) o=Zat (ZhI a i) o:=by
 rw[orM,ZDg _ _ _ _ _ ho];omega
theorem ZzU {a:Lv}{i:Nat}(har:a.2.2.1.length<=700)(h8:¬8<(Zay a.2.1 i).length):okM (orM a i)=true:=ZDf (by decide) har (by omega)
theorem ZnS (a:Lv)(i:Nat):Part (Zay a.2.1 i).length 0 (Zc1 (orM a i)).1:=by
 have:=(ZpE (orM a i)).1;rw[Zsh]at this;exact this
def ZhH (a:Lv)(i:Nat):Bool:=decide ((Zc1 (orM a i)).2<Zat (Zak (orM a i)) (List.range (Zay a.2.1 i).length))
def ZcM (a:Lv)(i:Nat):List Nat×Bool:=if 8<(Zay a.2.1 i).length then([],false)else((Zc1 (orM a i)).1,ZhH a i)
def Zfe (a:Lv)(i:Nat):Lv:=Zcc a i (ZaM (Zay a.2.1 i) (Zc1 (orM a i)).1)
theorem Zmx {a:Lv}{i:Nat}(h:(ZcM a i).2=true):¬8<(Zay a.2.1 i).length/\ZhH a i=true:=by
 rw[ZcM]at h;split at h
 ·cases h
 ·exact⟨by assumption,h⟩
theorem Kin.arr {a b:Lv}(h:Kin a b){i:Nat}(hi:i<a.2.1.length){o:List Nat}(ho:Part (Zay b.2.1 i).length 0 o):Kin a (Zcc b i (ZaM (Zay b.2.1 i) o)):=
 h.put (h.lay hi) (Zn0 (ZjL h.ok (h.lay hi)) ho)
theorem Zvs {a b:Lv}(h:Kin a b){i:Nat}(hi:i<a.2.1.length){o:List Nat}(ho:Part (Zay b.2.1 i).length 0 o):
  Zbk (Zcc b i (ZaM (Zay b.2.1 i) o))-Zbk b=Zat (Zak (orM b i)) o-Zat (Zak (orM b i)) (List.range (Zay b.2.1 i).length):=by
 rw[Zsi _ _ ho,Zsi _ _ (ZsW _)];exact ZAC h.ok (h.arr hi ho).ok (h.lay hi) ho
theorem Zmy {a b:Lv}(h:Kin a b){i:Nat}(hi:i<a.2.1.length):Kin a (Zfe b i):=h.arr hi (ZnS b i)
theorem ZpF {a b:Lv}(h:Kin a b){i:Nat}(hi:i<a.2.1.length)(hb:ZhH b i=true):Zbk (Zfe b i)<Zbk b:=by
 have h1:=Zvs h hi (ZnS b i);have h2:=(ZpE (orM b i)).2;rw[ZhH,uF,h2]at hb;rw[Zfe];omega
theorem ZDK (a:Lv):0<=Zbk a:=by
 have:=Zkp (f:=λ i=>Zb5 a i) (c:=360000000000) a.2.1.length λ i _=>Zo5 a i
 exact this.1
def ZbY :Nat->Lv->Nat->Lv
 |0,b,_=>b
 |f+1,b,i=>if i<b.2.1.length then(if(ZcM b i).2 then ZbY f (Zfe b i) 0 else ZbY f b (i+1))else b
def Zed (b:Lv)(i:Nat):Nat:=(Zbk b).toNat*(b.2.1.length+1)+(b.2.1.length-i)
def Zfw (a:Lv):Lv:=ZbY (Zed a 0) a 0
theorem Zr6 {b:Lv}{i:Nat}(h:i<b.2.1.length):Zed b (i+1)<Zed b i:=by
 simp only[Zed];omega
theorem Zr5 {a b:Lv}(h:Kin a b){i:Nat}(hi:i<a.2.1.length)(hb:ZhH b i=true):Zed (Zfe b i) 0<Zed b i:=by
 have h1:=ZpF h hi hb;have h2:=ZDK (Zfe b i);have h3:(Zfe b i).2.1.length=b.2.1.length:=by rw[(Zmy h hi).len,h.len]
 have h4:=h.len;rw[Zed,Zed,h3];have h5:((Zbk (Zfe b i)).toNat+1)*(b.2.1.length+1)<=(Zbk b).toNat*(b.2.1.length+1):=yP _ (by omega);rw[qH]at h5;omega
theorem Zs0 {f:Nat}{b:Lv}{i:Nat}(h:¬i<b.2.1.length):ZbY f b i=b:=by
 cases f with
 |zero=>rfl
 |succ f=>rw[ZbY,if_neg h]
theorem Zob {a:Lv}:∀(f:Nat) (b:Lv) (i:Nat),Kin a b->Zed b i<=f->i<=a.2.1.length->(∀j,j<i->(ZcM b j).2=false)->
  Kin a (ZbY f b i)/\Zbk (ZbY f b i)<=Zbk b/\∀j,j<a.2.1.length->(ZcM (ZbY f b i) j).2=false
 |0,b,i,h,hm,hi,hj=>by
  have h4:=h.len;simp only[Zed]at hm;rw[ZbY];exact⟨h,qL _,λ j hlt=>hj j (by omega)⟩
 |f+1,b,i,h,hm,hi,hj=>by
  have h4:=h.len;by_cases hlt:i<b.2.1.length
  ·rw[ZbY,if_pos hlt];rcases hb:(ZcM b i).2 with _|_
   ·rw[if_neg (by decide)];refine Zob f b (i+1) h (by have:=Zr6 hlt;omega) (by omega) λ j hlj=>?_
    rcases uC j i with c|c
    ·exact hj j c
    ·obtain rfl:j=i:=by omega
     exact hb
   ·rw[if_pos rfl];have hb2:=(Zmx hb).2;have h5:=Zr5 h (by omega) hb2;have h6:=ZpF h (by omega) hb2;obtain⟨g1,g2,g3⟩:=Zob f (Zfe b i) 0 (Zmy h (by omega)) (by omega) (uG _) (λ j hlj=>absurd hlj (An j));exact⟨g1,by omega,g3⟩
  ·rw[Zs0 hlt];exact⟨h,qL _,λ j hlt2=>hj j (by omega)⟩
theorem ZBd {a:Lv}(hv:Zaw a=true)(hw:wide a):Kin a (Zfw a)/\Zbk (Zfw a)<=Zbk a/\∀j,j<a.2.1.length->(ZcM (Zfw a) j).2=false:=
 Zob _ a 0 (Kin.refl hv hw) (uI _) (uG _) (λ j hlj=>absurd hlj (An j))
end Go.Proofs.YtjjbhjnpeenbkaaGreatDoor
