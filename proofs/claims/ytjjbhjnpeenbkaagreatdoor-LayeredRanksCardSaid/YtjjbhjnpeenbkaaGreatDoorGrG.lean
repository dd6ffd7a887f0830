/- Valid graphs by the reference. -/
import Derived.Test.YtjjbhjnpeenbkaaGreatDoorGrA
set_option linter.unusedSimpArgs false
set_option linter.unusedVariables false
set_option maxHeartbeats 16000000
namespace Go.Proofs.YtjjbhjnpeenbkaaGreatDoor.Gr
open Go Go.PS Go.Proofs
set_option maxRecDepth 100000
attribute [local irreducible] Zad wpG Zaa Zah
theorem Zxn {g:Gph}{s:ByteArray}{k:Nat}{x:Nd}(hx:g.ns[k]? =some x)(he:x.nm=s)(h:∀(j:Nat) y,j<k->g.ns[j]? =some y->decide (y.nm=s)=false):ZcQ g s=k:=by
 have:g.ns.findIdx? (λ n=>decide (n.nm=s))=some k:=by
  obtain⟨hk,hx2⟩:=uB.1 hx;refine kQ.2 ⟨hk,by rw[hx2];exact yB he,λ j hj=>?_⟩;rw[h j _ hj (uQ (by omega))];decide
 rw[ZcQ,this];rfl
theorem Zxp {g:Gph}{s:ByteArray}(h:∀(j:Nat) y,j<g.ns.length->g.ns[j]? =some y->decide (y.nm=s)=false):ZcQ g s=-1:=by
 have:g.ns.findIdx? (λ n=>decide (n.nm=s))=none:=by
  rw[Bi];intro x hx;obtain⟨j,hj⟩:=gN.1 hx;exact h j x (uB.1 hj).1 hj
 rw[ZcQ,this];rfl
theorem ZsS (g:Gph)(s:ByteArray)(hl:g.ns.length<=1000000):Zaa Tryz.prog 186 [Zbf g,ZaL s] (.int (ZcQ g s)):=by
 refine kE Tryz.func186 ?_;intro hat B X w0;refine kw1 kO kc0 kc0 ?_;refine Zae (λ(k:Nat)=>k<=g.ns.length/\∀(j:Nat) y,j<k->g.ns[j]? =some y->decide (y.nm=s)=false) (λ k=>[(1, .d (ZaL s)),(2, .ptr 2 0 0 0),(5, .int k)]) (λ k=>[(2, .cells [.d (ZaL g.nm), .d (.bool g.dir), .d (.sl (g.ns.map ndD)), .d (.sl (g.es.map edD)), .d (.sl (g.cs.map clD))])]) (λ k=>g.ns.length-k) 0 ?_ ?_ ?_
 ·exact⟨uG _,λ j y h=>by omega⟩
 ·exact kN kc0 []
 ·rintro k ⟨hk,hinv⟩;rcases uC k g.ns.length with hlt|hge
  ·obtain⟨x,hx⟩:=Zac hlt;by_cases c:x.nm=s
   ·refine kw1 kO (kc2 hx c) kc0 ?_;exact Zaf (Zxn hx c hinv).symm
   ·refine kw1 kO (kc2 hx c) kc0 ?_;refine⟨k+1,?_,kN kc0 [],?_⟩
    ·exact⟨hlt,Zbj hinv hx (uU c)⟩
    ·omega
  ·refine kw1 kO kc0 kc0 ?_;exact Zaf (Zxp (λ j y hj=>hinv j y (by omega))).symm
theorem ZBz (g:Gph)(i:Nat)(hm:Mod g)(hi:i<g.ns.length)(hl:g.ns.length<=1000000):Zaa Tryz.prog 130 [Zbf g, .int i] (.int (Zfu g i)):=by
 obtain⟨n,hn⟩:=Zac hi;obtain⟨m1,m2,m3⟩:=hm.ns n (uA hn);have e:=Zsa hn;have h1:=ZlC n.nm m1;have h2:=ZsS g n.nm hl;have h3:=ZsT n.lb m2;have h6:=ZAY n.ps m3;have hf:=Zxo hn;rw[e];rcases c1:ZcR n.nm with _|_<;>rw[c1]at h1
 ·rw[if_pos rfl];refine kE Tryz.func130 ?_;intro hat B X w0;refine kw1 kO (kc1 hn) (kc1 h1) ?_;exact Zaf rfl
 ·rw[if_neg (by decide)];by_cases c2:ZcQ g n.nm<i
  ·have c2':¬ZcQ g n.nm=(i:Int):=by omega
   rw[if_pos c2];refine kE Tryz.func130 ?_;intro hat B X w0;refine kw1 kO (kc2 hn @c2') (kc2 h1 h2) ?_;exact Zaf rfl
  ·have c2':ZcQ g n.nm=(i:Int):=by omega
   rw[if_neg c2];rw[c2']at h2;by_cases c3:32<n.lb.size
   ·have c3':(32:Int)<n.lb.size:=by omega
    rw[if_pos (by rw[ZcH,if_pos c3];decide),ZcH,if_pos c3];refine kE Tryz.func130 ?_;intro hat B X w0;refine kw1 kO (kc2 hn @c3') (kc2 h1 h2) ?_;exact Zaf rfl
   ·have c3':¬(32:Int)<n.lb.size:=by omega
    rcases c4:(Zb8 n.lb).any ZbU with _|_<;>rw[c4]at h3
    ·rw[if_neg (by rw[ZcH,if_neg c3,c4];decide)];by_cases c5:n.w<1\/1048576<n.w\/n.h<1\/1048576<n.h\/n.cl< -1\/(g.cs.length:Int)<=n.cl
     ·rw[if_pos (by simp[Zge];omega)];refine kE Tryz.func130 ?_;intro hat B X w0;refine kw kO (kc2 hn @c3') (kc4 h1 h2 h3 h6) ?_
      repeat' first|exact True.intro|refine Bn.mk ?_ ?_|intro hc
      all_goals first|exact Zaf rfl|(exfalso;omega)
     ·rw[if_neg (by simp[Zge];omega)];have w1:¬n.w<1:=by omega
      have w2:¬1048576<n.w:=by omega
      have w3:¬n.h<1:=by omega
      have w4:¬1048576<n.h:=by omega
      have w5:¬n.cl< -1:=by omega
      have w6:¬(g.cs.length:Int)<=n.cl:=by omega
      rw[Zka];by_cases c6:8<n.ps.length
      ·have c6':(8:Int)<n.ps.length:=by omega
       rw[if_pos c6];refine kE Tryz.func130 ?_;intro hat B X w0
       repeat' first|refine ZbH rfl ?_|refine Za0 ?_|refine wR ?_|(refine rc (h1) rfl ?_ ?_;(· first|rfl|simp(disch:=omega) only[go_sem,simprocAttr,hn,c3',w1,w2,w3,w4,w5,w6,c6']))|(refine rc (h2) rfl ?_ ?_;(· first|rfl|simp(disch:=omega) only[go_sem,simprocAttr,hn,c3',w1,w2,w3,w4,w5,w6,c6']))|(refine rc (h3) rfl ?_ ?_;(· first|rfl|simp(disch:=omega) only[go_sem,simprocAttr,hn,c3',w1,w2,w3,w4,w5,w6,c6']))|(refine ZbM rfl rfl (λ hc=>?_) (λ hc=>?_)<;>try simp only[hcL]at hc)|(refine ZbL _ rfl rfl (λ hc=>?_) (λ hc=>?_)<;>(try simp only[hcL]at hc)<;>try omega)|simp(disch:=omega) only[go_sem,simprocAttr,hn,c3',w1,w2,w3,w4,w5,w6,c6']|apply And.intro|omega|decide+kernel
       exact Zaf rfl
      ·have c6':¬(8:Int)<n.ps.length:=by omega
       rw[if_neg c6];refine kE Tryz.func130 ?_;intro hat B X w0
       repeat' first|refine ZbH rfl ?_|refine Za0 ?_|refine wR ?_|(refine rc (h1) rfl ?_ ?_;(· first|rfl|simp(disch:=omega) only[go_sem,simprocAttr,hn,c3',w1,w2,w3,w4,w5,w6,c6']))|(refine rc (h2) rfl ?_ ?_;(· first|rfl|simp(disch:=omega) only[go_sem,simprocAttr,hn,c3',w1,w2,w3,w4,w5,w6,c6']))|(refine rc (h3) rfl ?_ ?_;(· first|rfl|simp(disch:=omega) only[go_sem,simprocAttr,hn,c3',w1,w2,w3,w4,w5,w6,c6']))|(refine rc (h6) rfl ?_ ?_;(· first|rfl|simp(disch:=omega) only[go_sem,simprocAttr,hn,c3',w1,w2,w3,w4,w5,w6,c6']))|(refine ZbM rfl rfl (λ hc=>?_) (λ hc=>?_)<;>try simp only[hcL]at hc)|(refine ZbL _ rfl rfl (λ hc=>?_) (λ hc=>?_)<;>(try simp only[hcL]at hc)<;>try omega)|simp(disch:=omega) only[go_sem,simprocAttr,hn,c3',w1,w2,w3,w4,w5,w6,c6']|apply And.intro|omega|decide+kernel
       exact Zaf rfl
    ·rw[if_pos (by rw[ZcH,if_neg c3,c4];decide),ZcH,if_neg c3,c4,if_pos rfl];refine kE Tryz.func130 ?_;intro hat B X w0;refine kw1 kO (kc2 hn @c3') (kc3 h1 h2 h3) ?_;exact Zaf rfl
theorem ZA9 (g:Gph)(i:Nat)(hm:Mod g)(hi:i<g.cs.length)(hz:fe (Zeo g) i=0)(h16:g.cs.length<=16)(hl:g.ns.length<=1000000):Zaa Tryz.prog 131 [Zbf g, .int i] (.int (Zeo g i)):=by
 obtain⟨c,hc⟩:=Zac hi;have e:=ZmK hc;have h1:=ZlC c.nm (hm.cs c (uA hc));have h2:=ZsS g c.nm hl;rw[e];rcases c1:ZcR c.nm with _|_<;>rw[c1]at h1
 ·rw[if_pos rfl];refine kE Tryz.func131 ?_;intro hat B X w0;refine kw1 kO (kc1 hc) (kc1 h1) ?_;exact Zaf rfl
 ·rw[if_neg (by decide)];refine kE Tryz.func131 ?_;intro hat B X w0;refine kw1 kO (kc1 hc) (kc1 h1) ?_;refine Zae (λ(k:Nat)=>k<=i/\∀(j:Nat) y,j<k->g.cs[j]? =some y->decide (y.nm=c.nm)=false) (λ k=>[(1, .int i),(2, .ptr 2 0 0 0),(5, .ptr 5 0 0 0),(6, .int k)]) (λ k=>[(2, .cells [.d (ZaL g.nm), .d (.bool g.dir), .d (.sl (g.ns.map ndD)), .d (.sl (g.es.map edD)), .d (.sl (g.cs.map clD))]),(5, .cells [.d (ZaL c.nm), .int c.pa])]) (λ k=>i-k) 0 ?_ ?_ ?_
  ·exact⟨uG _,λ j y h=>by omega⟩
  ·exact kN kc0 []
  ·rintro k ⟨hk,hinv⟩;rcases uC k i with hlt|hge
   ·obtain⟨x,hx⟩:=Zac (l:=g.cs) (k:=k) (by omega);by_cases cx:x.nm=c.nm
    ·refine kw1 kO (kc2 hx cx) kc0 ?_;exact Zaf (by rw[if_pos (.inr (Zb0 (k:=k) (by rw[jI hlt];exact hx) (yB cx)))])
    ·refine kw1 kO (kc2 hx cx) kc0 ?_;refine⟨k+1,?_,kN kc0 [],?_⟩
     ·exact⟨hlt,Zbj hinv hx (uU cx)⟩
     ·omega
   ·have hany:(g.cs.take i).any (λ x=>decide (x.nm=c.nm))=false:=Zck (λ j y hj hy=>by
     rw[yF]at hj;rw[jI (by omega)]at hy;exact hinv j y (by omega) hy)
    rw[hany];by_cases c2:0<=ZcQ g c.nm
    ·refine kw1 kO (kc1 c2) (kc1 h2) ?_;exact Zaf (by first|rfl|rw[if_pos (.inl c2)])
    ·rw[if_neg (by simp;omega)];by_cases c4:c.pa< -1
     ·refine kw1 kO (kc2 c2 c4) (kc1 h2) ?_;exact Zaf (by first|rfl|rw[if_pos (.inl c4)])
     ·by_cases c5:(i:Int)<=c.pa
      ·refine kw1 kO (kc3 c2 c4 c5) (kc1 h2) ?_;exact Zaf (by first|rfl|rw[if_pos (.inr c5)])
      ·rw[if_neg (by omega)];have h4:=ZAT g i hi (Zqr hz hc c4 c5) (by omega);by_cases c6:6<(ZcN g.cs i).length
       ·refine kw1 kO (kc4 c2 c4 c5 c6) (kc2 h2 h4) ?_;exact Zaf (by first|rfl|rw[if_pos c6])
       ·refine kw1 kO (kc4 c2 c4 c5 c6) (kc2 h2 h4) ?_;exact Zaf (by first|rfl|rw[if_neg c6])
theorem ZBc (g:Gph)(e:Ed)(he:e.lb.size<=1000000):Zaa Tryz.prog 132 [Zbf g,edD e] (.int (ZfS g e)):=by
 have h1:=ZsT e.lb he;by_cases hin:0<=e.fr/\0<=e.to/\e.fr<g.ns.length/\e.to<g.ns.length
 ·obtain⟨i1,i2,i3,i4⟩:=hin;obtain⟨n1,g1⟩:=Zac (l:=g.ns) (k:=e.fr.toNat) (by omega);obtain⟨n2,g2⟩:=Zac (l:=g.ns) (k:=e.to.toNat) (by omega);have p1:=ZlA g1;have p2:=ZlA g2;have q1:¬e.fr<0:=by omega
  have q2:¬(g.ns.length:Int)<=e.fr:=by omega
  have q3:¬e.to<0:=by omega
  have q4:¬(g.ns.length:Int)<=e.to:=by omega
  rw[ZfS,p1,p2];by_cases hp:e.fp< -1\/e.tp< -1\/(n1.ps.length:Int)<=e.fp\/(n2.ps.length:Int)<=e.tp
  ·rw[if_pos (by omega)];refine kE Tryz.func132 ?_;intro hat B X w0;refine kw kO (kc6 g1 g2 q1 q2 q3 q4) (kc1 h1) ?_
   repeat' first|exact True.intro|refine Bn.mk ?_ ?_|intro hc
   all_goals first|exact Zaf rfl|(exfalso;omega)
  ·rw[if_neg (by omega)];have k1:¬e.fp< -1:=by omega
   have k2:¬e.tp< -1:=by omega
   have k3:¬(n1.ps.length:Int)<=e.fp:=by omega
   have k4:¬(n2.ps.length:Int)<=e.tp:=by omega
   by_cases c3:32<e.lb.size
   ·have c3':(32:Int)<e.lb.size:=by omega
    rw[if_pos (by rw[ZcH,if_pos c3];decide),ZcH,if_pos c3];refine kE Tryz.func132 ?_;intro hat B X w0;refine kw1 kO (kc8 g1 g2 q1 q2 q3 q4 k1 (kc4 k2 k3 k4 @c3')) kc0 ?_;exact Zaf rfl
   ·have c3':¬(32:Int)<e.lb.size:=by omega
    rcases c4:(Zb8 e.lb).any ZbU with _|_<;>rw[c4]at h1
    ·rw[if_neg (by rw[ZcH,if_neg c3,c4];decide)];by_cases hw:e.wt<1\/1000<e.wt\/e.ln<1\/64<e.ln
     ·rw[if_pos hw];refine kE Tryz.func132 ?_;intro hat B X w0;refine kw kO (kc8 g1 g2 q1 q2 q3 q4 k1 (kc4 k2 k3 k4 @c3')) (kc1 h1) ?_
      repeat' first|exact True.intro|refine Bn.mk ?_ ?_|intro hc
      all_goals first|exact Zaf rfl|(exfalso;omega)
     ·rw[if_neg hw];have w1:¬e.wt<1:=by omega
      have w2:¬1000<e.wt:=by omega
      have w3:¬e.ln<1:=by omega
      have w4:¬64<e.ln:=by omega
      refine kE Tryz.func132 ?_;intro hat B X w0
      repeat' first|refine ZbH rfl ?_|refine Za0 ?_|refine wR ?_|(refine rc (h1) rfl ?_ ?_;(· first|rfl|simp(disch:=omega) only[go_sem,simprocAttr,g1,g2,q1,q2,q3,q4,k1,k2,k3,k4,c3',w1,w2,w3,w4]))|(refine ZbM rfl rfl (λ hc=>?_) (λ hc=>?_)<;>try simp only[hcL]at hc)|(refine ZbL _ rfl rfl (λ hc=>?_) (λ hc=>?_)<;>(try simp only[hcL]at hc)<;>try omega)|simp(disch:=omega) only[go_sem,simprocAttr,g1,g2,q1,q2,q3,q4,k1,k2,k3,k4,c3',w1,w2,w3,w4]|apply And.intro|omega|decide+kernel
      exact Zaf rfl
    ·rw[if_pos (by rw[ZcH,if_neg c3,c4];decide),ZcH,if_neg c3,c4,if_pos rfl];refine kE Tryz.func132 ?_;intro hat B X w0;refine kw1 kO (kc8 g1 g2 q1 q2 q3 q4 k1 (kc4 k2 k3 k4 @c3')) (kc1 h1) ?_;exact Zaf rfl
 ·rw[ZfS,if_pos (by omega)];by_cases q1:e.fr<0
  ·refine kE Tryz.func132 ?_;intro hat B X w0;refine kw1 kO (kc1 q1) kc0 ?_;exact Zaf rfl
  ·by_cases q2:(g.ns.length:Int)<=e.fr
   ·refine kE Tryz.func132 ?_;intro hat B X w0;refine kw1 kO (kc2 q1 q2) kc0 ?_;exact Zaf rfl
   ·by_cases q3:e.to<0
    ·refine kE Tryz.func132 ?_;intro hat B X w0;refine kw1 kO (kc3 q1 q2 q3) kc0 ?_;exact Zaf rfl
    ·have q4:(g.ns.length:Int)<=e.to:=by omega
     refine kE Tryz.func132 ?_;intro hat B X w0;refine kw1 kO (kc4 q1 q2 q3 q4) kc0 ?_;exact Zaf rfl
theorem Zof (g:Gph)(hm:Mod g):Zaa Tryz.prog 79 [Zbf g] (.int (ZcW g)):=by
 have h1:=ZlC g.nm hm.nm;rw[ZcW];by_cases c0:64<g.ns.length\/256<g.es.length\/16<g.cs.length
 ·rw[if_pos c0];refine kE Tryz.func79 ?_;intro hat B X w0;refine kw kO kc0 kc0 ?_
  repeat' first|exact True.intro|refine Bn.mk ?_ ?_|intro hc
  all_goals first|exact Zaf rfl|(exfalso;omega)
 ·rw[if_neg c0];have a1:¬(64:Int)<g.ns.length:=by omega
  have a2:¬(256:Int)<g.es.length:=by omega
  have a3:¬(16:Int)<g.cs.length:=by omega
  rcases c1:ZcR g.nm with _|_<;>rw[c1]at h1
  ·rw[if_pos rfl];refine kE Tryz.func79 ?_;intro hat B X w0;refine kw1 kO (kc3 a1 a2 a3) (kc1 h1) ?_;exact Zaf rfl
  ·rw[if_neg (by decide)];refine kE Tryz.func79 ?_;intro hat B X w0;refine kw1 kO (kc3 a1 a2 a3) (kc1 h1) ?_;refine Zae (λ(k:Nat)=>k<=g.ns.length/\fe (Zfu g) k=0) (λ k=>[(1, .ptr 1 0 0 0),(3, .int k)]) (λ k=>[(1, .cells [.d (ZaL g.nm), .d (.bool g.dir), .d (.sl (g.ns.map ndD)), .d (.sl (g.es.map edD)), .d (.sl (g.cs.map clD))])]) (λ k=>g.ns.length-k) 0 ?_ ?_ ?_
   ·exact⟨uG _,rfl⟩
   ·exact kN kc0 []
   ·rintro k ⟨hk,hinv⟩;rcases uC k g.ns.length with hlt|hge
    ·have h2:=ZBz g k hm hlt (by omega);by_cases hz:Zfu g k=0
     ·rw[hz]at h2;refine kw1 kO kc0 (kc1 h2) ?_;refine⟨k+1,?_,kN kc0 [],?_⟩
      ·exact⟨hlt,Zg1 hinv hz⟩
      ·omega
     ·refine kw1 kO (kc1 hz) (kc1 h2) ?_;exact Zaf (by rw[Zd0 hinv hz _ hlt,if_pos hz])
    ·obtain rfl:k=g.ns.length:=by omega
     rw[if_neg (λ h=>h hinv)];refine kw1 kO kc0 kc0 ?_;refine Zae (λ(k:Nat)=>k<=g.cs.length/\fe (Zeo g) k=0) (λ k=>[(1, .ptr 1 0 0 0),(5, .int k)]) (λ k=>[(1, .cells [.d (ZaL g.nm), .d (.bool g.dir), .d (.sl (g.ns.map ndD)), .d (.sl (g.es.map edD)), .d (.sl (g.cs.map clD))])]) (λ k=>g.cs.length-k) 0 ?_ ?_ ?_
     ·exact⟨uG _,rfl⟩
     ·exact kN kc0 []
     ·rintro k ⟨hk,hinv2⟩;rcases uC k g.cs.length with hlt|hge
      ·have h2:=ZA9 g k hm hlt hinv2 (by omega) (by omega);by_cases hz:Zeo g k=0
       ·rw[hz]at h2;refine kw1 kO kc0 (kc1 h2) ?_;refine⟨k+1,?_,kN kc0 [],?_⟩
        ·exact⟨hlt,Zg1 hinv2 hz⟩
        ·omega
       ·refine kw1 kO (kc1 hz) (kc1 h2) ?_;exact Zaf (by rw[Zd0 hinv2 hz _ hlt,if_pos hz])
      ·obtain rfl:k=g.cs.length:=by omega
       rw[if_neg (λ h=>h hinv2)];refine kw1 kO kc0 kc0 ?_;refine Zae (λ(k:Nat)=>k<=g.es.length/\fe (Zfi g) k=0) (λ k=>[(1, .ptr 1 0 0 0),(7, .int k)]) (λ k=>[(1, .cells [.d (ZaL g.nm), .d (.bool g.dir), .d (.sl (g.ns.map ndD)), .d (.sl (g.es.map edD)), .d (.sl (g.cs.map clD))])]) (λ k=>g.es.length-k) 0 ?_ ?_ ?_
       ·exact⟨uG _,rfl⟩
       ·exact kN kc0 []
       ·rintro k ⟨hk,hinv3⟩;rcases uC k g.es.length with hlt|hge
        ·obtain⟨x,hx⟩:=Zac hlt;have h2:=ZBc g x (hm.es x (uA hx));have ee:Zfi g k=ZfS g x:=by rw[Zfi,hx]
         rw[<-ee]at h2;by_cases hz:Zfi g k=0
         ·rw[hz]at h2;refine kw1 kO (kc1 hx) (kc1 h2) ?_;refine⟨k+1,?_,kN kc0 [],?_⟩
          ·exact⟨hlt,Zg1 hinv3 hz⟩
          ·omega
         ·refine kw1 kO (kc2 hx hz) (kc1 h2) ?_;exact Zaf (by rw[Zd0 hinv3 hz _ hlt])
        ·refine kw1 kO kc0 kc0 ?_;exact Zaf (by rw[show g.es.length=k by omega,hinv3])
end Go.Proofs.YtjjbhjnpeenbkaaGreatDoor.Gr
