/- Ordering: what it computes (no program in sight). -/
import Derived.Test.YtjjbhjnpeenbkaaGreatDoorStM
set_option linter.unusedSimpArgs false
set_option linter.unusedVariables false
set_option maxHeartbeats 16000000
namespace Go.Proofs.YtjjbhjnpeenbkaaGreatDoor
open Go Go.PS Go.Proofs
open Go.Bd (Zaq Part Zi0)
def orM (a:Lv)(i:Nat):List (List Int):=stM a [] (Zaw a.2.1 i) 0 i
theorem Zta (a:Lv)(i:Nat):(orM a i).length=(Zaw a.2.1 i).length:=Zmi ..
theorem Ztb (a:Lv)(i:Nat){o:List Nat}(ho:Part (Zaw a.2.1 i).length 0 o):Zaq (Zak (orM a i)) o=Zaq (ZhT a i) o:=by
 rw[orM,ZEy _ _ _ _ _ ho];omega
theorem ZA5 {a:Lv}{i:Nat}(har:a.2.2.1.length<=700)(h8:¬8<(Zaw a.2.1 i).length):okM (orM a i)=true:=ZEx (by decide) har (by omega)
theorem Zor (a:Lv)(i:Nat):Part (Zaw a.2.1 i).length 0 (Zc3 (orM a i)).1:=by
 have:=(Zqk (orM a i)).1;rw[Zta]at this;exact this
def ZhS (a:Lv)(i:Nat):Bool:=decide ((Zc3 (orM a i)).2<Zaq (Zak (orM a i)) (List.range (Zaw a.2.1 i).length))
def ZcG (a:Lv)(i:Nat):List Nat×Bool:=if 8<(Zaw a.2.1 i).length then([],false)else((Zc3 (orM a i)).1,ZhS a i)
def Zfr (a:Lv)(i:Nat):Lv:=Zcc a i (ZaO (Zaw a.2.1 i) (Zc3 (orM a i)).1)
theorem ZmZ {a:Lv}{i:Nat}(h:(ZcG a i).2=true):¬8<(Zaw a.2.1 i).length/\ZhS a i=true:=by
 rw[ZcG]at h;split at h
 ·cases h
 ·exact⟨by assumption,h⟩
theorem Kin.arr {a b:Lv}(h:Kin a b){i:Nat}(hi:i<a.2.1.length){o:List Nat}(ho:Part (Zaw b.2.1 i).length 0 o):Kin a (Zcc b i (ZaO (Zaw b.2.1 i) o)):=
 h.put (h.lay hi) (ZoD (Zj5 h.ok (h.lay hi)) ho)
theorem ZwC {a b:Lv}(h:Kin a b){i:Nat}(hi:i<a.2.1.length){o:List Nat}(ho:Part (Zaw b.2.1 i).length 0 o):
  Zbc (Zcc b i (ZaO (Zaw b.2.1 i) o))-Zbc b=Zaq (Zak (orM b i)) o-Zaq (Zak (orM b i)) (List.range (Zaw b.2.1 i).length):=by
 rw[Ztb _ _ ho,Ztb _ _ (Zt0 _)];exact ZB4 h.ok (h.arr hi ho).ok (h.lay hi) ho
theorem Zm0 {a b:Lv}(h:Kin a b){i:Nat}(hi:i<a.2.1.length):Kin a (Zfr b i):=h.arr hi (Zor b i)
theorem Zql {a b:Lv}(h:Kin a b){i:Nat}(hi:i<a.2.1.length)(hb:ZhS b i=true):Zbc (Zfr b i)<Zbc b:=by
 have h1:=ZwC h hi (Zor b i);have h2:=(Zqk (orM b i)).2;rw[ZhS,uF,h2]at hb;rw[Zfr];omega
theorem ZE1 (a:Lv):0<=Zbc a:=by
 have:=ZkG (f:=λ i=>Zb4 a i) (c:=360000000000) a.2.1.length λ i _=>ZpD a i
 exact this.1
def ZbL :Nat->Lv->Nat->Lv
 |0,b,_=>b
 |f+1,b,i=>if i<b.2.1.length then(if(ZcG b i).2 then ZbL f (Zfr b i) 0 else ZbL f b (i+1))else b
def Zek (b:Lv)(i:Nat):Nat:=(Zbc b).toNat*(b.2.1.length+1)+(b.2.1.length-i)
def Zcl (a:Lv):Lv:=ZbL (Zek a 0) a 0
theorem ZsT {b:Lv}{i:Nat}(h:i<b.2.1.length):Zek b (i+1)<Zek b i:=by
 simp only[Zek];omega
theorem ZsS {a b:Lv}(h:Kin a b){i:Nat}(hi:i<a.2.1.length)(hb:ZhS b i=true):Zek (Zfr b i) 0<Zek b i:=by
 have h1:=Zql h hi hb;have h2:=ZE1 (Zfr b i);have h3:(Zfr b i).2.1.length=b.2.1.length:=by rw[(Zm0 h hi).len,h.len]
 have h4:=h.len;rw[Zek,Zek,h3];have h5:((Zbc (Zfr b i)).toNat+1)*(b.2.1.length+1)<=(Zbc b).toNat*(b.2.1.length+1):=yO _ (by omega);rw[qJ]at h5;omega
theorem Zt4 {f:Nat}{b:Lv}{i:Nat}(h:¬i<b.2.1.length):ZbL f b i=b:=by
 cases f with
 |zero=>rfl
 |succ f=>rw[ZbL,if_neg h]
theorem Zl6 {a:Lv}:∀(f:Nat) (b:Lv) (i:Nat),Kin a b->Zek b i<=f->i<=a.2.1.length->(∀j,j<i->(ZcG b j).2=false)->
  Kin a (ZbL f b i)/\Zbc (ZbL f b i)<=Zbc b/\∀j,j<a.2.1.length->(ZcG (ZbL f b i) j).2=false
 |0,b,i,h,hm,hi,hj=>by
  have h4:=h.len;simp only[Zek]at hm;rw[ZbL];exact⟨h,qX _,λ j hlt=>hj j (by omega)⟩
 |f+1,b,i,h,hm,hi,hj=>by
  have h4:=h.len;by_cases hlt:i<b.2.1.length
  ·rw[ZbL,if_pos hlt];rcases hb:(ZcG b i).2 with _|_
   ·rw[if_neg (by decide)];refine Zl6 f b (i+1) h (by have:=ZsT hlt;omega) (by omega) λ j hlj=>?_
    rcases uE j i with c|c
    ·exact hj j c
    ·obtain rfl:j=i:=by omega
     exact hb
   ·rw[if_pos rfl];have hb2:=(ZmZ hb).2;have h5:=ZsS h (by omega) hb2;have h6:=Zql h (by omega) hb2;obtain⟨g1,g2,g3⟩:=Zl6 f (Zfr b i) 0 (Zm0 h (by omega)) (by omega) (uH _) (λ j hlj=>absurd hlj (zS j));exact⟨g1,by omega,g3⟩
  ·rw[Zt4 hlt];exact⟨h,qX _,λ j hlt2=>hj j (by omega)⟩
theorem ZCu {a:Lv}(hv:Zar a=true)(hw:wide a):Kin a (Zcl a)/\Zbc (Zcl a)<=Zbc a/\∀j,j<a.2.1.length->(ZcG (Zcl a) j).2=false:=
 Zl6 _ a 0 (Kin.refl hv hw) (uJ _) (uH _) (λ j hlj=>absurd hlj (zS j))
end Go.Proofs.YtjjbhjnpeenbkaaGreatDoor
