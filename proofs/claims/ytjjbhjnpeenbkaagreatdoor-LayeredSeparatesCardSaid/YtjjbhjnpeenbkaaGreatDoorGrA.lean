/- Names and labels: strings as the program and the reference look at them. -/
import Derived.Test.YtjjbhjnpeenbkaaGreatDoorTypes
set_option linter.unusedSimpArgs false
set_option linter.unusedVariables false
set_option maxHeartbeats 16000000
namespace Go.Proofs.YtjjbhjnpeenbkaaGreatDoor.Gr
open Go Go.PS Go.Proofs
set_option maxRecDepth 100000
attribute [local irreducible] Zad wpG Zaa Zag
abbrev Za1 (s:ByteArray):D:= .sc (.string s)
def Zj6 (c:Int):Bool:=(decide (97<=c)&&decide (c<=122))||(decide (65<=c)&&decide (c<=90))||decide (c=95)
def ZjN (c:Int):Bool:=decide (48<=c)&&decide (c<=57)
theorem Zz2 (c:Int):Zaa Tryz.prog 199 [.sc (.int .u8 c)] (.bool (Zj6 c)):=by
 refine kE Tryz.func199 ?_;intro hat B X w0;refine kw kO kc0 kc0 ?_
 repeat' first|exact True.intro|refine Bn.mk ?_ ?_|intro hc
 all_goals
  refine Zah ?_;rw[qV];simp[Zj6]
  try omega
theorem Zx6 (c:Int):Zaa Tryz.prog 200 [.sc (.int .u8 c)] (.bool (ZjN c)):=by
 refine kE Tryz.func200 ?_;intro hat B X w0;refine kw kO kc0 kc0 ?_
 repeat' first|exact True.intro|refine Bn.mk ?_ ?_|intro hc
 all_goals
  refine Zah ?_;rw[qV];simp[ZjN]
  try omega
def Zh3 (s:ByteArray)(n:Nat):Bool:=decide (n<s.size)&&(Zj6 ((Zc4 s).getD n 0)||(decide (0<n)&&ZjN ((Zc4 s).getD n 0)))
def Zmt (s:ByteArray):Nat:=((List.range (s.size+1)).findIdx? λ n=> !Zh3 s n).getD 0
theorem ZFI {s:ByteArray}{n:Nat}(h:∀j,j<n->Zh3 s j=true)(hn:Zh3 s n=false)(hl:n<=s.size):Zmt s=n:=by
 rw[Zmt,Zex (k:=n) (yR (by omega)) (by rw[hn];rfl) (λ j y hj hy=>by
  rw[yR (by omega)]at hy;cases hy;rw[h j hj];rfl)]
 rfl
theorem ZFJ (s:ByteArray)(hs:s.size<=1000000):Zaa Tryz.prog 147 [Za1 s] (.int (Zmt s)):=by
 have h1:=Zz2;have h2:=Zx6;refine kE Tryz.func147 ?_;intro hat B X w0;refine kw1 kO kc0 kc0 ?_;refine Zaf (λ(n:Nat)=>n<=s.size/\∀j,j<n->Zh3 s j=true) (λ n=>[(0, .d (Za1 s)),(3, .int n)]) (λ n=>[]) (λ n=>s.size-n) 0 ?_ ?_ ?_
 ·exact⟨uH _,λ j h=>by omega⟩
 ·exact kN kc0 []
 ·rintro n ⟨hn,hinv⟩;have hg:=λ h=>ZFI hinv h hn
  rcases uE n s.size with hlt|hge
  ·generalize hb:(Zc4 s).getD n 0=b;have e:Zh3 s n=(Zj6 b||(decide (0<n)&&ZjN b)):=by rw[Zh3,hb,yD hlt,kH]
   have h1b:=h1 b;have h2b:=h2 b;rcases c1:Zj6 b with _|_<;>rw[c1]at h1b e
   ·by_cases c0:0<n
    ·have c0':(0:Int)<n:=by omega
     rw[yD c0]at e;rcases c2:ZjN b with _|_<;>rw[c2]at h2b e
     ·refine kw1 kO (kc2 hb @c0') (kc2 h1b h2b) ?_;exact Zai (by rw[hg e])
     ·refine kw1 kO (kc2 hb @c0') (kc2 h1b h2b) ?_;refine⟨n+1,?_,kN kc0 [],?_⟩
      ·exact⟨hlt,λ j hj=>by rcases uE j n with h|h;exact hinv j h;rw[show j=n by omega];exact e⟩
      ·omega
    ·have c0':¬(0:Int)<n:=by omega
     rw[uV c0]at e;refine kw1 kO (kc2 hb @c0') (kc1 h1b) ?_;exact Zai (by rw[hg e])
   ·refine kw1 kO (kc1 hb) (kc1 h1b) ?_;refine⟨n+1,?_,kN kc0 [],?_⟩
    ·exact⟨hlt,λ j hj=>by rcases uE j n with h|h;exact hinv j h;rw[show j=n by omega];exact e⟩
    ·omega
  ·refine kw1 kO kc0 kc0 ?_;exact Zai (by rw[hg (by simp[Zh3];omega)])
def ZnT (s:ByteArray):Bool:=decide (s=⟨#[100,105,103,114,97,112,104]⟩)||decide (s=⟨#[103,114,97,112,104]⟩)||decide (s=⟨#[110,111,100,101]⟩)||decide (s=⟨#[101,100,103,101]⟩)||decide (s=⟨#[115,101,116]⟩)||decide (s=⟨#[99,108,117,115,116,101,114]⟩)
theorem Zzz (s:ByteArray):Zaa Tryz.prog 148 [Za1 s] (.bool (ZnT s)):=by
 refine kE Tryz.func148 ?_;intro hat B X w0
 repeat' first|refine ZbQ rfl ?_|refine Za7 ?_|refine wR ?_|(refine ZbY rfl rfl (λ hc=>?_) (λ hc=>?_)<;>try simp only[hcL]at hc)|(refine ZbW _ rfl rfl (λ hc=>?_) (λ hc=>?_)<;>(try simp only[hcL]at hc)<;>try omega)|simp(disch:=omega) only[go_sem,simprocAttr]|apply And.intro|omega|decide+kernel
 all_goals
  refine Zah ?_
  simp_all [ZnT]
def ZeD (s:ByteArray):Bool:=decide (s≠⟨#[]⟩)&&decide (s.size<=16)&&decide (Zmt s=s.size)&& !ZnT s
theorem ZlP (s:ByteArray)(hs:s.size<=1000000):Zaa Tryz.prog 90 [Za1 s] (.bool (ZeD s)):=by
 have h1:=ZFJ s hs;have h2:=Zzz s;refine kE Tryz.func90 ?_;intro hat B X w0;refine kw kO kc0 (kc2 h1 h2) ?_
 repeat' first|exact True.intro|refine Bn.mk ?_ ?_|intro hc
 all_goals
  refine Zah ?_;rw[qV];simp[ZeD]
  first|done|omega|(intro _;exact⟨⟨by assumption,by omega⟩,by omega⟩)|(intros;contradiction)
structure Pt where
 nm:ByteArray
 sd:Int
structure Nd where
 nm:ByteArray
 lb:ByteArray
 w:Int
 h:Int
 cl:Int
 ps:List Pt
structure Ed where
 fr:Int
 to:Int
 fp:Int
 tp:Int
 lb:ByteArray
 wt:Int
 ln:Int
structure Cl where
 nm:ByteArray
 pa:Int
structure Gph where
 nm:ByteArray
 dir:Bool
 ns:List Nd
 es:List Ed
 cs:List Cl
abbrev ptD (p:Pt):D:= .ag [Za1 p.nm, .int p.sd]
abbrev ndD (n:Nd):D:= .ag [Za1 n.nm,Za1 n.lb, .int n.w, .int n.h, .int n.cl, .sl (n.ps.map ptD)]
abbrev edD (e:Ed):D:= .ag [.int e.fr, .int e.to, .int e.fp, .int e.tp,Za1 e.lb, .int e.wt, .int e.ln]
abbrev clD (c:Cl):D:= .ag [Za1 c.nm, .int c.pa]
abbrev ZaN (g:Gph):D:= .ag [Za1 g.nm, .bool g.dir, .sl (g.ns.map ndD), .sl (g.es.map edD), .sl (g.cs.map clD)]
def fe (f:Nat->Int):Nat->Int
 |0=>0
 |k+1=>if fe f k=0 then f k else fe f k
theorem Zlt {f:Nat->Int}{k:Nat}(h:fe f k=0)(hk:f k=0):fe f (k+1)=0:=by rw[fe,if_pos h,hk]
theorem ZhX {f:Nat->Int}{k:Nat}(h:fe f k=0)(hk:f k≠0):∀n,k<n->fe f n=f k:=by
 intro n
 induction n with
 |zero=>intro hn;omega
 |succ n ih=>
  intro hn;rw[fe];rcases uE k n with h1|h1
  ·rw[ih h1,if_neg hk]
  ·rw[show n=k by omega,if_pos h]
theorem Znx {f:Nat->Int}:∀{n:Nat},fe f n=0->∀k,k<n->f k=0:=by
 intro n
 induction n with
 |zero=>intro _ k hk;omega
 |succ n ih=>
  intro h k hk;rw[fe]at h;by_cases h0:fe f n=0
  ·rw[if_pos h0]at h;rcases uE k n with h1|h1
   ·exact ih h0 k h1
   ·rw[show k=n by omega];exact h
  ·rw[if_neg h0]at h;exact absurd h h0
theorem Zzh (l:List Nd)(g:Nat)(caps:List D)(p:Nd->Bool)(hp:∀x,Zaa Tryz.prog g (ndD x::caps) (.bool (p x))):Zaa Tryz.prog 201 [.sl (l.map ndD), .fn g caps] (.int (ZcU (l.findIdx? p))):=by
 refine kE Tryz.func201 ?_;intro hat B X w0;have hl:=ZaJ 0 hat rfl;rw[uC]at hl;refine kw1 kO kc0 kc0 ?_;refine Zaf (λ(k:Nat)=>k<=l.length/\∀(j:Nat) y,j<k->l[j]? =some y->p y=false) (λ k=>[(0, .d (.sl (l.map ndD))),(1, .d (.fn g caps)),(7, .int l.length),(8, .int k)]) (λ k=>[]) (λ k=>l.length-k) 0 ?_ ?_ ?_
 ·exact⟨uH _,λ j y h=>by omega⟩
 ·exact kN kc0 []
 ·rintro k ⟨hk,hinv⟩;rcases uE k l.length with hlt|hge
  ·obtain⟨x,hx⟩:=Zac hlt;have hpx:=hp x;rcases hb:p x with _|_<;>rw[hb]at hpx
   ·refine kw1 kO (kc1 hx) (kc1 (kcc [ndD x] caps hpx)) ?_;refine⟨k+1,?_,kN kc0 [],?_⟩
    ·exact⟨by omega,Zbr hinv hx hb⟩
    ·omega
   ·refine kw1 kO (kc1 hx) (kc1 (kcc [ndD x] caps hpx)) ?_;refine Zai ?_;rw[Zex hx hb hinv];rfl
  ·refine kw1 kO kc0 kc0 ?_;refine Zai ?_;rw[Ze3 (λ j y hy=>hinv j y (by have:=(uB.1 hy).1;omega) hy)];rfl
theorem Zzi (l:List Pt)(g:Nat)(caps:List D)(p:Pt->Bool)(hp:∀x,Zaa Tryz.prog g (ptD x::caps) (.bool (p x))):Zaa Tryz.prog 235 [.sl (l.map ptD), .fn g caps] (.int (ZcU (l.findIdx? p))):=by
 refine kE Tryz.func235 ?_;intro hat B X w0;have hl:=ZaJ 0 hat rfl;rw[uC]at hl;refine kw1 kO kc0 kc0 ?_;refine Zaf (λ(k:Nat)=>k<=l.length/\∀(j:Nat) y,j<k->l[j]? =some y->p y=false) (λ k=>[(0, .d (.sl (l.map ptD))),(1, .d (.fn g caps)),(7, .int l.length),(8, .int k)]) (λ k=>[]) (λ k=>l.length-k) 0 ?_ ?_ ?_
 ·exact⟨uH _,λ j y h=>by omega⟩
 ·exact kN kc0 []
 ·rintro k ⟨hk,hinv⟩;rcases uE k l.length with hlt|hge
  ·obtain⟨x,hx⟩:=Zac hlt;have hpx:=hp x;rcases hb:p x with _|_<;>rw[hb]at hpx
   ·refine kw1 kO (kc1 hx) (kc1 (kcc [ptD x] caps hpx)) ?_;refine⟨k+1,?_,kN kc0 [],?_⟩
    ·exact⟨by omega,Zbr hinv hx hb⟩
    ·omega
   ·refine kw1 kO (kc1 hx) (kc1 (kcc [ptD x] caps hpx)) ?_;refine Zai ?_;rw[Zex hx hb hinv];rfl
  ·refine kw1 kO kc0 kc0 ?_;refine Zai ?_;rw[Ze3 (λ j y hy=>hinv j y (by have:=(uB.1 hy).1;omega) hy)];rfl
theorem Zzd (l:List Cl)(g:Nat)(caps:List D)(p:Cl->Bool)(hp:∀x,Zaa Tryz.prog g (clD x::caps) (.bool (p x))):Zaa Tryz.prog 205 [.sl (l.map clD), .fn g caps] (.int (ZcU (l.findIdx? p))):=by
 refine kE Tryz.func205 ?_;intro hat B X w0;have hl:=ZaJ 0 hat rfl;rw[uC]at hl;refine kw1 kO kc0 kc0 ?_;refine Zaf (λ(k:Nat)=>k<=l.length/\∀(j:Nat) y,j<k->l[j]? =some y->p y=false) (λ k=>[(0, .d (.sl (l.map clD))),(1, .d (.fn g caps)),(7, .int l.length),(8, .int k)]) (λ k=>[]) (λ k=>l.length-k) 0 ?_ ?_ ?_
 ·exact⟨uH _,λ j y h=>by omega⟩
 ·exact kN kc0 []
 ·rintro k ⟨hk,hinv⟩;rcases uE k l.length with hlt|hge
  ·obtain⟨x,hx⟩:=Zac hlt;have hpx:=hp x;rcases hb:p x with _|_<;>rw[hb]at hpx
   ·refine kw1 kO (kc1 hx) (kc1 (kcc [clD x] caps hpx)) ?_;refine⟨k+1,?_,kN kc0 [],?_⟩
    ·exact⟨by omega,Zbr hinv hx hb⟩
    ·omega
   ·refine kw1 kO (kc1 hx) (kc1 (kcc [clD x] caps hpx)) ?_;refine Zai ?_;rw[Zex hx hb hinv];rfl
  ·refine kw1 kO kc0 kc0 ?_;refine Zai ?_;rw[Ze3 (λ j y hy=>hinv j y (by have:=(uB.1 hy).1;omega) hy)];rfl
theorem ZxM (l:List Pt)(g:Nat)(caps:List D)(p:Pt->Bool)(hp:∀x,Zaa Tryz.prog g (ptD x::caps) (.bool (p x))):Zaa Tryz.prog 203 [.sl (l.map ptD), .fn g caps] (.bool (l.any p)):=by
 have h:=Zzi l g caps p hp;refine kE Tryz.func203 ?_;intro hat B X w0;refine kw1 kO kc0 (kc1 h) ?_;exact Zah (Zg3 p l)
theorem ZxK (l:List Cl)(g:Nat)(caps:List D)(p:Cl->Bool)(hp:∀x,Zaa Tryz.prog g (clD x::caps) (.bool (p x))):Zaa Tryz.prog 153 [.sl (l.map clD), .fn g caps] (.bool (l.any p)):=by
 have h:=Zzd l g caps p hp;refine kE Tryz.func153 ?_;intro hat B X w0;refine kw1 kO kc0 (kc1 h) ?_;exact Zah (Zg3 p l)
theorem Zyy (n:Nd)(s:ByteArray):Zaa Tryz.prog 202 [ndD n, .pt [Za1 s]] (.bool (decide (n.nm=s))):=by
 refine kE Tryz.func202 ?_;intro hat B X w0;refine kw1 kO kc0 kc0 ?_;exact Zah rfl
theorem ZxC (c:Cl)(s:ByteArray)(k:Int):Zaa Tryz.prog 154 [clD c, .pt [Za1 s, .int k]] (.bool (decide (c.nm=s))):=by
 refine kE Tryz.func154 ?_;intro hat B X w0;refine kw1 kO kc0 kc0 ?_;exact Zah rfl
theorem ZBS (c:Pt)(s:ByteArray)(k:Int):Zaa Tryz.prog 204 [ptD c, .pt [Za1 s, .int k]] (.bool (decide (c.nm=s))):=by
 refine kE Tryz.func204 ?_;intro hat B X w0;refine kw1 kO kc0 kc0 ?_;exact Zah rfl
def Zh1 (g:Gph)(s:ByteArray):Int:=ZcU (g.ns.findIdx? λ n=>decide (n.nm=s))
theorem ZiV (g:Gph)(s:ByteArray):Zaa Tryz.prog 149 [ZaN g,Za1 s] (.int (Zh1 g s)):=by
 have h:=Zzh g.ns 202 [.pt [Za1 s]] (λ n=>decide (n.nm=s)) (λ x=>Zyy x s);refine kE Tryz.func149 ?_;intro hat B X w0;refine kw1 kO kc0 (kc1 h) ?_;exact Zai rfl
def Zdv (c:Int):Bool:=decide (c<32)||decide (126<c)
def Zf2 (s:ByteArray):Int:=if 32<s.size then 2 else if(Zc4 s).any Zdv then 7 else 0
theorem Zw9 {s:ByteArray}{k:Nat}(h:k<s.size):(Zc4 s)[k]? =some ((Zc4 s).getD k 0):=by
 have:=ZfQ s;rw[gW,uR (by omega)];rfl
theorem Zr8 (s:ByteArray):Zaa Tryz.prog 150 [Za1 s] (.int (Zf2 s)):=by
 have hbl:=ZfQ s;have hbd:(Zdw s).length=s.size:=by rw[Zdw,uC,hbl]
 rw[Zf2];by_cases h32:32<s.size
 ·rw[if_pos h32];refine kE Tryz.func150 ?_;intro hat B X w0;refine kw1 kO kc0 kc0 ?_;exact Zai rfl
 ·rw[if_neg h32];refine kE Tryz.func150 ?_;intro hat B X w0;refine kw1 kO (kc1 hbd) kc0 ?_;refine Zaf (λ(k:Nat)=>k<=s.size/\∀(j:Nat) y,j<k->(Zc4 s)[j]? =some y->Zdv y=false) (λ k=>[(9, .d (.sl (Zdw s))),(10, .int s.size),(11, .int k)]) (λ k=>[]) (λ k=>s.size-k) 0 ?_ ?_ ?_
  ·exact⟨uH _,λ j y h=>by omega⟩
  ·exact kN kc0 []
  ·rintro k ⟨hk,hinv⟩;rcases uE k s.size with hlt|hge
   ·have hx:=Zw9 hlt;generalize(Zc4 s).getD k 0=c at hx;have hd:(Zdw s)[k]? =some (.sc (.int .u8 c)):=by rw[Zdw,uI,hx];rfl
    by_cases h1:c<32
    ·refine kw1 kO (kc3 hd hbd h1) kc0 ?_;refine Zai ?_;rw[if_pos (ZcE (q:=Zdv) hx (by rw[Zdv,yD h1];rfl))]
    ·by_cases h2:126<c
     ·refine kw1 kO (kc4 hd hbd h1 h2) kc0 ?_;refine Zai ?_;rw[if_pos (ZcE (q:=Zdv) hx (by rw[Zdv,yD h2,Cr]))]
     ·refine kw1 kO (kc4 hd hbd h1 h2) kc0 ?_;refine⟨k+1,?_,kN kc0 [],?_⟩
      ·exact⟨hlt,Zbr hinv hx (by rw[Zdv,uV h1,uV h2];rfl)⟩
      ·omega
   ·refine kw1 kO kc0 kc0 ?_;refine Zai ?_;rw[if_neg (by rw[Zc2 (q:=Zdv) (λ j y hj=>hinv j y (by omega))];decide)]
def ZeP (n:Int):Bool:=decide (1<=n)&&decide (n<=1048576)
theorem Zkz (n:Int):Zaa Tryz.prog 151 [.int n] (.bool (ZeP n)):=by
 refine kE Tryz.func151 ?_;intro hat B X w0;refine kw kO kc0 kc0 ?_
 repeat' first|exact True.intro|refine Bn.mk ?_ ?_|intro hc
 all_goals
  refine Zah ?_;rw[qV];simp[ZeP]
  try omega
def ZlY (l:List Pt)(i:Nat):Int:=match l[i]? with
 |none=>0
 |some p=>if ZeD p.nm=false then 5 else if(l.take i).any (λ q=>decide (q.nm=p.nm))then 6 else if p.sd<0\/3<p.sd then 7 else 0
def ZlZ (l:List Pt):Int:=if 8<l.length then 2 else fe (ZlY l) l.length
theorem ZBT {l:List Pt}{i:Nat}{p:Pt}(h:l[i]? =some p):ZlY l i=if ZeD p.nm=false then 5 else if(l.take i).any (λ q=>decide (q.nm=p.nm))then 6 else if p.sd<0\/3<p.sd then 7 else 0:=by rw[ZlY,h]
theorem ZBU (l:List Pt)(hn:∀p∈l,p.nm.size<=1000000):Zaa Tryz.prog 152 [.sl (l.map ptD)] (.int (ZlZ l)):=by
 rw[ZlZ];by_cases h8:8<l.length
 ·rw[if_pos h8];refine kE Tryz.func152 ?_;intro hat B X w0;refine kw1 kO kc0 kc0 ?_;exact Zai rfl
 ·rw[if_neg h8];refine kE Tryz.func152 ?_;intro hat B X w0;refine kw1 kO kc0 kc0 ?_;refine Zaf (λ(k:Nat)=>k<=l.length/\fe (ZlY l) k=0) (λ k=>[(0, .d (.sl (l.map ptD))),(8, .d (.sl (l.map ptD))),(9, .int l.length),(10, .int k)]) (λ k=>[]) (λ k=>l.length-k) 0 ?_ ?_ ?_
  ·exact⟨uH _,rfl⟩
  ·exact kN kc0 []
  ·rintro k ⟨hk,hinv⟩;rcases uE k l.length with hlt|hge
   ·obtain⟨p,hp⟩:=Zac hlt;have e:=ZBT hp;have h1:=ZlP p.nm (hn p (uA hp));have h2:=ZxM (l.take k) 204 [.pt [Za1 p.nm, .int p.sd]] (λ q=>decide (q.nm=p.nm)) (λ x=>ZBS x p.nm p.sd);have hlt':(l.take k).map ptD=(l.map ptD).take k:=Ap;rw[hlt']at h2;rcases c1:ZeD p.nm with _|_<;>rw[c1]at h1 e
    ·rw[if_pos rfl]at e;refine kw1 kO (kc1 hp) (kc1 h1) ?_;exact Zai (by rw[ZhX hinv (by rw[e];decide) _ hlt,e])
    ·rw[if_neg (by decide)]at e;rcases c2:(l.take k).any (λ q=>decide (q.nm=p.nm))with _|_<;>rw[c2]at h2 e
     ·rw[if_neg (by decide)]at e;by_cases c3:p.sd<0
      ·rw[if_pos (.inl c3)]at e;refine kw kO (kc2 hp c3) (kc2 h1 h2) ?_
       repeat' first|exact True.intro|refine Bn.mk ?_ ?_|intro hc
       exact Zai (by rw[ZhX hinv (by rw[e];decide) _ hlt,e])
      ·by_cases c4:3<p.sd
       ·rw[if_pos (.inr c4)]at e;refine kw kO (kc3 hp c3 c4) (kc2 h1 h2) ?_
        repeat' first|exact True.intro|refine Bn.mk ?_ ?_|intro hc
        exact Zai (by rw[ZhX hinv (by rw[e];decide) _ hlt,e])
       ·rw[if_neg (by omega)]at e;refine kw kO (kc3 hp c3 c4) (kc2 h1 h2) ?_
        repeat' first|exact True.intro|refine Bn.mk ?_ ?_|intro hc
        refine⟨k+1,?_,eL [] _ _ (by refine⟨?_,?_⟩<;>(repeat' first|exact fmn|refine fmc ⟨(by first|rfl|(simp(disch:=omega) only[go_sem,simprocAttr,inL];first|done|omega|(congr 1;done))),?_⟩);done),?_⟩
        ·exact⟨hlt,Zlt hinv e⟩
        ·omega
     ·rw[if_pos rfl]at e;refine kw kO (kc1 hp) (kc2 h1 h2) ?_
      repeat' first|exact True.intro|refine Bn.mk ?_ ?_|intro hc
      exact Zai (by rw[ZhX hinv (by rw[e];decide) _ hlt,e])
   ·refine kw1 kO kc0 kc0 ?_;exact Zai (by rw[show l.length=k by omega,hinv])
structure Mod (g:Gph):Prop where
 nm:g.nm.size<=1000000
 ns:∀n∈g.ns,n.nm.size<=1000000/\n.lb.size<=1000000/\∀p∈n.ps,p.nm.size<=1000000
 es:∀e∈g.es,e.lb.size<=1000000
 cs:∀c∈g.cs,c.nm.size<=1000000
def Zhe (g:Gph)(i:Nat):Int:=match g.ns[i]? with
 |none=>0
 |some n=>if ZeD n.nm=false then 5 else if Zh1 g n.nm<i then 6 else if Zf2 n.lb≠0 then Zf2 n.lb
  else if ZeP n.w=false\/ZeP n.h=false\/n.cl< -1\/(g.cs.length:Int)<=n.cl then 3 else ZlZ n.ps
def Zgm (cs:List Cl):Nat->Int->List Int
 |0,_=>[]
 |f+1,c=>if c<0 then[]else c::Zgm cs f (match cs[c.toNat]? with|some x=>x.pa|none=>-1)
def ZdM (cs:List Cl)(c:Int):List Int:=Zgm cs (c+1).toNat c
def Zgp (g:Gph)(i:Nat):Int:=match g.cs[i]? with
 |none=>0
 |some c=>if ZeD c.nm=false then 5 else if 0<=Zh1 g c.nm\/(g.cs.take i).any (λ x=>decide (x.nm=c.nm))=true then 6 else if c.pa< -1\/(i:Int)<=c.pa then 3 else if 6<(ZdM g.cs i).length then 2 else 0
def Zl0 (g:Gph)(v:Int):Nat:=match g.ns[v.toNat]? with|some n=>n.ps.length|none=>0
def ZiQ (g:Gph)(e:Ed):Int:=
 if e.fr<0\/e.to<0\/(g.ns.length:Int)<=e.fr\/(g.ns.length:Int)<=e.to\/e.fp< -1\/e.tp< -1\/(Zl0 g e.fr:Int)<=e.fp\/(Zl0 g e.to:Int)<=e.tp then 3
 else if Zf2 e.lb≠0 then Zf2 e.lb else if e.wt<1\/1000<e.wt\/e.ln<1\/64<e.ln then 7 else 0
def ZhW (g:Gph)(i:Nat):Int:=match g.es[i]? with|none=>0|some e=>ZiQ g e
def Zd0 (g:Gph):Int:=if 64<g.ns.length\/256<g.es.length\/16<g.cs.length then 2 else if ZeD g.nm=false then 5
 else if fe (Zhe g) g.ns.length≠0 then fe (Zhe g) g.ns.length else if fe (Zgp g) g.cs.length≠0 then fe (Zgp g) g.cs.length else fe (ZhW g) g.es.length
theorem ZsY {g:Gph}{i:Nat}{n:Nd}(h:g.ns[i]? =some n):Zhe g i=if ZeD n.nm=false then 5 else if Zh1 g n.nm<i then 6 else if Zf2 n.lb≠0 then Zf2 n.lb
  else if ZeP n.w=false\/ZeP n.h=false\/n.cl< -1\/(g.cs.length:Int)<=n.cl then 3 else ZlZ n.ps:=by rw[Zhe,h]
theorem ZqI {g:Gph}{i:Nat}{c:Cl}(h:g.cs[i]? =some c):Zgp g i=if ZeD c.nm=false then 5 else if 0<=Zh1 g c.nm\/(g.cs.take i).any (λ x=>decide (x.nm=c.nm))=true then 6 else if c.pa< -1\/(i:Int)<=c.pa then 3 else if 6<(ZdM g.cs i).length then 2 else 0:=by rw[Zgp,h]
theorem ZAJ (g:Gph)(i:Nat)(hm:Mod g)(hi:i<g.ns.length):Zaa Tryz.prog 91 [ZaN g, .int i] (.int (Zhe g i)):=by
 obtain⟨n,hn⟩:=Zac hi;obtain⟨m1,m2,m3⟩:=hm.ns n (uA hn);have e:=ZsY hn;have h1:=ZlP n.nm m1;have h2:=ZiV g n.nm;have h3:=Zr8 n.lb;have h4:=Zkz n.w;have h5:=Zkz n.h;have h6:=ZBU n.ps m3;rw[e];rcases c1:ZeD n.nm with _|_<;>rw[c1]at h1
 ·rw[if_pos rfl];refine kE Tryz.func91 ?_;intro hat B X w0;refine kw1 kO (kc1 hn) (kc1 h1) ?_;exact Zai rfl
 ·rw[if_neg (by decide)];by_cases c2:Zh1 g n.nm<i
  ·rw[if_pos c2];refine kE Tryz.func91 ?_;intro hat B X w0;refine kw1 kO (kc2 hn c2) (kc2 h1 h2) ?_;exact Zai rfl
  ·rw[if_neg c2];by_cases c3:Zf2 n.lb=0
   ·rw[if_neg (by omega)];rw[c3]at h3;rcases c4:ZeP n.w with _|_<;>rw[c4]at h4
    ·rw[if_pos (.inl rfl)];refine kE Tryz.func91 ?_;intro hat B X w0;refine kw1 kO (kc2 hn c2) (kc4 h1 h2 h3 h4) ?_;exact Zai rfl
    ·rcases c5:ZeP n.h with _|_<;>rw[c5]at h5
     ·rw[if_pos (.inr (.inl rfl))];refine kE Tryz.func91 ?_;intro hat B X w0;refine kw1 kO (kc2 hn c2) (kc5 h1 h2 h3 h4 h5) ?_;exact Zai rfl
     ·by_cases c6:n.cl< -1
      ·rw[if_pos (.inr (.inr (.inl c6)))];refine kE Tryz.func91 ?_;intro hat B X w0;refine kw1 kO (kc3 hn c2 c6) (kc5 h1 h2 h3 h4 h5) ?_;exact Zai rfl
      ·by_cases c7:(g.cs.length:Int)<=n.cl
       ·rw[if_pos (.inr (.inr (.inr c7)))];refine kE Tryz.func91 ?_;intro hat B X w0;refine kw1 kO (kc4 hn c2 c6 c7) (kc5 h1 h2 h3 h4 h5) ?_;exact Zai rfl
       ·rw[if_neg (by simp;omega)];refine kE Tryz.func91 ?_;intro hat B X w0;refine kw1 kO (kc4 hn c2 c6 c7) (kc6 h1 h2 h3 h4 h5 h6) ?_;exact Zai rfl
   ·rw[if_pos (by omega)];refine kE Tryz.func91 ?_;intro hat B X w0;refine kw1 kO (kc3 hn c2 c3) (kc3 h1 h2 h3) ?_;exact Zai rfl
def Ziu (cs:List Cl)(c0:Int):Prop:=∀(j:Nat) x,cs[j]? =some x->(j:Int)<=c0->-1<=x.pa/\x.pa<j
theorem Zxv {cs:List Cl}{c0:Int}(h:Ziu cs c0):∀(f:Nat) (c:Int),c<=c0->(c+1).toNat<=f->Zgm cs f c=ZdM cs c:=by
 intro f
 induction f using Nat.strongRecOn with
 |_ f ih=>
  intro c hc hf;by_cases h0:c<0
  ·rw[ZdM,show(c+1).toNat=0 by omega,Zgm];cases f with
   |zero=>rfl
   |succ f=>rw[Zgm,if_pos h0]
  ·obtain⟨k,rfl⟩:∃k:Nat,c=k:=⟨c.toNat,by omega⟩;cases f with
   |zero=>omega
   |succ f=>
    rw[ZdM,show((k:Int)+1).toNat=k+1 by omega,Zgm,Zgm,if_neg (by omega),if_neg (by omega),uM]
    congr 1
    cases hx:cs[k]? with
    |none=>
     dsimp only;rw[ih f (by omega) (-1) (by omega) (by omega)];rcases uE k (f+1)with h1|h1
     ·rcases uE k f with h2|h2
      ·rw[ih k (by omega) (-1) (by omega) (by omega)]
      ·rw[ih k (by omega) (-1) (by omega) (by omega)]
     ·omega
    |some x=>
     dsimp only;obtain⟨g1,g2⟩:=h k x hx hc;rw[ih f (by omega) x.pa (by omega) (by omega),ih k (by omega) x.pa (by omega) (by omega)]
theorem Zxx (cs:List Cl){c:Int}(h:c<0):ZdM cs c=[]:=by
 rw[ZdM,show(c+1).toNat=0 by omega,Zgm]
theorem Zxy {cs:List Cl}{c0:Int}(h:Ziu cs c0){k:Nat}{x:Cl}(hx:cs[k]? =some x)(hk:(k:Int)<=c0):ZdM cs k=(k:Int)::ZdM cs x.pa:=by
 obtain⟨g1,g2⟩:=h k x hx hk;rw[ZdM,show((k:Int)+1).toNat=k+1 by omega,Zgm,if_neg (by omega),uM,hx];dsimp only;rw[Zxv h k x.pa (by omega) (by omega)]
theorem ZwB (g:Gph)(i:Nat)(hi:i<g.cs.length)(hd:Ziu g.cs i)(h1:i<=1000):Zaa Tryz.prog 206 [ZaN g, .int i] (.sl ((ZdM g.cs i).map D.int)):=by
 refine kE Tryz.func206 ?_;intro hat B X w0;refine kw1 kO kc0 kc0 ?_;refine Zao _ (Zcy 5 901 1 rfl rfl) ?_;refine Zaf (λ(q:List Int×Int)=>match q with|(l,c)=>l++ZdM g.cs c=ZdM g.cs i/\-1<=c/\c<=i/\(l.length:Int)+c<=i) (λ(l,c)=>[(1, .int c),(2, .ptr 2 0 0 0),(5, .ref 901 1 0 l.length l.length)]) (λ(l,c)=>[(2, .cells [.d (Za1 g.nm), .d (.bool g.dir), .d (.sl (g.ns.map ndD)), .d (.sl (g.es.map edD)), .d (.sl (g.cs.map clD))]),(901, .row 1 (l.map D.int))]) (λ(l,c)=>(c+1).toNat) ([],(i:Int)) ?_ ?_ ?_
 ·exact⟨rfl,by omega,by omega,by simp⟩
 ·exact kN kc0 []
 ·rintro⟨l,c⟩ ⟨q1,q2,q3,q4⟩;dsimp only at q1 q2 q3 q4|-;by_cases h0:c<0
  ·refine kw1 kO (kc1 h0) kc0 ?_;rw[Zxx _ h0,yT]at q1;exact ZbF (o:=901) rfl rfl (by simp) (by rw[uD (by simp),q1])
  ·obtain⟨k,rfl⟩:∃k:Nat,c=k:=⟨c.toNat,by omega⟩;obtain⟨x,hx⟩:=Zac (l:=g.cs) (k:=k) (by omega);obtain⟨g1,g2⟩:=hd k x hx q3;have hs:=Zxy hd hx q3;refine kw1 kO (kc2 hx @Zal) kc0 ?_;refine⟨(l++[(k:Int)],x.pa),?_,kN (kc5 @uG.{0} @yL.{0} @uQ.{0,0} @uT.{0,0} @yH.{0,0}) [(901,11)],?_⟩
   ·refine⟨?_,by omega,by omega,?_⟩
    ·rw[<-q1,hs,qK];rfl
    ·rw[uG,yL];omega
   ·dsimp only;omega
theorem Zx5 (g:Gph)(i:Nat)(hi:i<g.cs.length)(hd:Ziu g.cs i)(h1:i<=1000):Zaa Tryz.prog 155 [ZaN g, .int i] (.int (ZdM g.cs i).length):=by
 have h:=ZwB g i hi hd h1;refine kE Tryz.func155 ?_;intro hat B X w0;refine kw kO kc0 (kc1 h) ?_
 repeat' first|exact True.intro|refine Bn.mk ?_ ?_|intro hc
 exact Zai rfl
theorem Zya {g:Gph}{i:Nat}(h:fe (Zgp g) i=0){c:Cl}(hc:g.cs[i]? =some c)(h1:¬c.pa< -1)(h2:¬(i:Int)<=c.pa):Ziu g.cs i:=by
 intro j x hx hj;rcases uE j i with hlt|hge
 ·have hz:=Znx h j hlt;rw[ZqI hx]at hz;split at hz
  ·cases hz
  ·split at hz
   ·cases hz
   ·split at hz
    ·cases hz
    ·rename_i hq;omega
 ·obtain rfl:j=i:=by omega
  rw[hc]at hx;cases hx;omega
theorem ZxD (g:Gph)(i:Nat)(hm:Mod g)(hi:i<g.cs.length)(hz:fe (Zgp g) i=0)(h16:g.cs.length<=16):Zaa Tryz.prog 92 [ZaN g, .int i] (.int (Zgp g i)):=by
 obtain⟨c,hc⟩:=Zac hi;have e:=ZqI hc;have h1:=ZlP c.nm (hm.cs c (uA hc));have h2:=ZiV g c.nm;have h3:=ZxK (g.cs.take i) 154 [.pt [Za1 c.nm, .int c.pa]] (λ x=>decide (x.nm=c.nm)) (λ x=>ZxC x c.nm c.pa);have ht:(g.cs.take i).map clD=(g.cs.map clD).take i:=Ap;rw[ht]at h3;rw[e];rcases c1:ZeD c.nm with _|_<;>rw[c1]at h1
 ·rw[if_pos rfl];refine kE Tryz.func92 ?_;intro hat B X w0;refine kw1 kO (kc1 hc) (kc1 h1) ?_;exact Zai rfl
 ·rw[if_neg (by decide)];by_cases c2:0<=Zh1 g c.nm
  ·rw[if_pos (.inl c2)];refine kE Tryz.func92 ?_;intro hat B X w0;refine kw1 kO (kc2 hc c2) (kc2 h1 h2) ?_;exact Zai rfl
  ·rcases c3:(g.cs.take i).any (λ x=>decide (x.nm=c.nm))with _|_<;>rw[c3]at h3
   ·rw[if_neg (by simp;omega)];by_cases c4:c.pa< -1
    ·rw[if_pos (.inl c4)];refine kE Tryz.func92 ?_;intro hat B X w0;refine kw1 kO (kc3 hc c2 c4) (kc3 h1 h2 h3) ?_;exact Zai rfl
    ·by_cases c5:(i:Int)<=c.pa
     ·rw[if_pos (.inr c5)];refine kE Tryz.func92 ?_;intro hat B X w0;refine kw1 kO (kc4 hc c2 c4 c5) (kc3 h1 h2 h3) ?_;exact Zai rfl
     ·rw[if_neg (by omega)];have h4:=Zx5 g i hi (Zya hz hc c4 c5) (by omega);by_cases c6:6<(ZdM g.cs i).length
      ·rw[if_pos c6];refine kE Tryz.func92 ?_;intro hat B X w0;refine kw1 kO (kc5 hc c2 c4 c5 c6) (kc4 h1 h2 h3 h4) ?_;exact Zai rfl
      ·rw[if_neg c6];refine kE Tryz.func92 ?_;intro hat B X w0;refine kw1 kO (kc5 hc c2 c4 c5 c6) (kc4 h1 h2 h3 h4) ?_;exact Zai rfl
   ·rw[if_pos (.inr rfl)];refine kE Tryz.func92 ?_;intro hat B X w0;refine kw1 kO (kc2 hc c2) (kc3 h1 h2 h3) ?_;exact Zai rfl
theorem ZtH {g:Gph}{v:Int}{n:Nd}(h:g.ns[v.toNat]? =some n):Zl0 g v=n.ps.length:=by rw[Zl0,h]
theorem ite_min {a b:Int}(c:Prop)[Decidable c]:(if c then a else b)<b->True:=λ _=>trivial
theorem Zyc (g:Gph)(e:Ed):Zaa Tryz.prog 93 [ZaN g,edD e] (.int (ZiQ g e)):=by
 have h1:=Zr8 e.lb;by_cases hin:0<=e.fr/\0<=e.to/\e.fr<g.ns.length/\e.to<g.ns.length
 ·obtain⟨i1,i2,i3,i4⟩:=hin;obtain⟨n1,g1⟩:=Zac (l:=g.ns) (k:=e.fr.toNat) (by omega);obtain⟨n2,g2⟩:=Zac (l:=g.ns) (k:=e.to.toNat) (by omega);have p1:=ZtH g1;have p2:=ZtH g2;have q1:¬(if e.to<e.fr then e.to else e.fr)<0:=by split<;>omega
  have q2:¬(g.ns.length:Int)<=(if e.fr<e.to then e.to else e.fr):=by split<;>omega
  rw[ZiQ,p1,p2];by_cases hp:e.fp< -1\/e.tp< -1\/(n1.ps.length:Int)<=e.fp\/(n2.ps.length:Int)<=e.tp
  ·rw[if_pos (by omega)];by_cases k1:(if e.tp<e.fp then e.tp else e.fp)< -1
   ·refine kE Tryz.func93 ?_;intro hat B X w0;refine kw1 kO (kc5 g1 g2 q1 q2 k1) kc0 ?_;exact Zai rfl
   ·have k2:(n1.ps.length:Int)<=e.fp\/(n2.ps.length:Int)<=e.tp:=by split at k1<;>omega
    by_cases k3:(n1.ps.length:Int)<=e.fp
    ·refine kE Tryz.func93 ?_;intro hat B X w0;refine kw1 kO (kc6 g1 g2 q1 q2 k1 k3) kc0 ?_;exact Zai rfl
    ·have k4:(n2.ps.length:Int)<=e.tp:=by omega
     refine kE Tryz.func93 ?_;intro hat B X w0;refine kw1 kO (kc7 g1 g2 q1 q2 k1 k3 k4) kc0 ?_;exact Zai rfl
  ·rw[if_neg (by omega)];have k1:¬(if e.tp<e.fp then e.tp else e.fp)< -1:=by split<;>omega
   have k3:¬(n1.ps.length:Int)<=e.fp:=by omega
   have k4:¬(n2.ps.length:Int)<=e.tp:=by omega
   by_cases c3:Zf2 e.lb=0
   ·rw[if_neg (by omega)];rw[c3]at h1;by_cases hw:e.wt<1\/1000<e.wt\/e.ln<1\/64<e.ln
    ·rw[if_pos hw];refine kE Tryz.func93 ?_;intro hat B X w0;refine kw kO (kc7 g1 g2 q1 q2 k1 k3 k4) (kc1 h1) ?_
     repeat' first|exact True.intro|refine Bn.mk ?_ ?_|intro hc
     all_goals first|exact Zai rfl|(exfalso;omega)
    ·rw[if_neg hw];have w1:¬e.wt<1:=by omega
     have w2:¬1000<e.wt:=by omega
     have w3:¬e.ln<1:=by omega
     have w4:¬64<e.ln:=by omega
     refine kE Tryz.func93 ?_;intro hat B X w0
     repeat' first|refine ZbQ rfl ?_|refine Za7 ?_|refine wR ?_|(refine rc (h1) rfl ?_ ?_;(· first|rfl|simp(disch:=omega) only[go_sem,simprocAttr,g1,g2,q1,q2,k1,k3,k4,w1,w2,w3,w4]))|(refine ZbY rfl rfl (λ hc=>?_) (λ hc=>?_)<;>try simp only[hcL]at hc)|(refine ZbW _ rfl rfl (λ hc=>?_) (λ hc=>?_)<;>(try simp only[hcL]at hc)<;>try omega)|simp(disch:=omega) only[go_sem,simprocAttr,g1,g2,q1,q2,k1,k3,k4,w1,w2,w3,w4]|apply And.intro|omega|decide+kernel
     exact Zai rfl
   ·rw[if_pos (by omega)];refine kE Tryz.func93 ?_;intro hat B X w0;refine kw1 kO (kc8 g1 g2 q1 q2 k1 k3 k4 c3) (kc1 h1) ?_;exact Zai rfl
 ·rw[ZiQ,if_pos (by omega)];by_cases q1:(if e.to<e.fr then e.to else e.fr)<0
  ·refine kE Tryz.func93 ?_;intro hat B X w0;refine kw1 kO (kc1 q1) kc0 ?_;exact Zai rfl
  ·have q2:(g.ns.length:Int)<=(if e.fr<e.to then e.to else e.fr):=by split at q1<;>split<;>omega
   refine kE Tryz.func93 ?_;intro hat B X w0;refine kw1 kO (kc2 q1 q2) kc0 ?_;exact Zai rfl
theorem Zea (g:Gph)(hm:Mod g):Zaa Tryz.prog 45 [ZaN g] (.int (Zd0 g)):=by
 have h1:=ZlP g.nm hm.nm;rw[Zd0];by_cases c0:64<g.ns.length\/256<g.es.length\/16<g.cs.length
 ·rw[if_pos c0];refine kE Tryz.func45 ?_;intro hat B X w0;refine kw kO kc0 kc0 ?_
  repeat' first|exact True.intro|refine Bn.mk ?_ ?_|intro hc
  all_goals first|exact Zai rfl|(exfalso;omega)
 ·rw[if_neg c0];have a1:¬(64:Int)<g.ns.length:=by omega
  have a2:¬(256:Int)<g.es.length:=by omega
  have a3:¬(16:Int)<g.cs.length:=by omega
  rcases c1:ZeD g.nm with _|_<;>rw[c1]at h1
  ·rw[if_pos rfl];refine kE Tryz.func45 ?_;intro hat B X w0;refine kw1 kO (kc3 a1 a2 a3) (kc1 h1) ?_;exact Zai rfl
  ·rw[if_neg (by decide)];refine kE Tryz.func45 ?_;intro hat B X w0;refine kw1 kO (kc3 a1 a2 a3) (kc1 h1) ?_;refine Zaf (λ(k:Nat)=>k<=g.ns.length/\fe (Zhe g) k=0) (λ k=>[(1, .ptr 1 0 0 0),(32, .int g.ns.length),(33, .int k)]) (λ k=>[(1, .cells [.d (Za1 g.nm), .d (.bool g.dir), .d (.sl (g.ns.map ndD)), .d (.sl (g.es.map edD)), .d (.sl (g.cs.map clD))])]) (λ k=>g.ns.length-k) 0 ?_ ?_ ?_
   ·exact⟨uH _,rfl⟩
   ·exact kN kc0 []
   ·rintro k ⟨hk,hinv⟩;rcases uE k g.ns.length with hlt|hge
    ·have h2:=ZAJ g k hm hlt;by_cases hz:Zhe g k=0
     ·rw[hz]at h2;refine kw1 kO kc0 (kc1 h2) ?_;refine⟨k+1,?_,kN kc0 [],?_⟩
      ·exact⟨hlt,Zlt hinv hz⟩
      ·omega
     ·refine kw1 kO (kc1 hz) (kc1 h2) ?_;exact Zai (by rw[ZhX hinv hz _ hlt,if_pos hz])
    ·obtain rfl:k=g.ns.length:=by omega
     rw[if_neg (λ h=>h hinv)];refine kw1 kO kc0 kc0 ?_;refine Zaf (λ(k:Nat)=>k<=g.cs.length/\fe (Zgp g) k=0) (λ k=>[(1, .ptr 1 0 0 0),(45, .int g.cs.length),(46, .int k)]) (λ k=>[(1, .cells [.d (Za1 g.nm), .d (.bool g.dir), .d (.sl (g.ns.map ndD)), .d (.sl (g.es.map edD)), .d (.sl (g.cs.map clD))])]) (λ k=>g.cs.length-k) 0 ?_ ?_ ?_
     ·exact⟨uH _,rfl⟩
     ·exact kN kc0 []
     ·rintro k ⟨hk,hinv2⟩;rcases uE k g.cs.length with hlt|hge
      ·have h2:=ZxD g k hm hlt hinv2 (by omega);by_cases hz:Zgp g k=0
       ·rw[hz]at h2;refine kw1 kO kc0 (kc1 h2) ?_;refine⟨k+1,?_,kN kc0 [],?_⟩
        ·exact⟨hlt,Zlt hinv2 hz⟩
        ·omega
       ·refine kw1 kO (kc1 hz) (kc1 h2) ?_;exact Zai (by rw[ZhX hinv2 hz _ hlt,if_pos hz])
      ·obtain rfl:k=g.cs.length:=by omega
       rw[if_neg (λ h=>h hinv2)];refine kw1 kO kc0 kc0 ?_;refine Zaf (λ(k:Nat)=>k<=g.es.length/\fe (ZhW g) k=0) (λ k=>[(1, .ptr 1 0 0 0),(57, .d (.sl (g.es.map edD))),(58, .int g.es.length),(59, .int k)]) (λ k=>[(1, .cells [.d (Za1 g.nm), .d (.bool g.dir), .d (.sl (g.ns.map ndD)), .d (.sl (g.es.map edD)), .d (.sl (g.cs.map clD))])]) (λ k=>g.es.length-k) 0 ?_ ?_ ?_
       ·exact⟨uH _,rfl⟩
       ·exact kN kc0 []
       ·rintro k ⟨hk,hinv3⟩;rcases uE k g.es.length with hlt|hge
        ·obtain⟨x,hx⟩:=Zac hlt;have h2:=Zyc g x;have ee:ZhW g k=ZiQ g x:=by rw[ZhW,hx]
         rw[<-ee]at h2;by_cases hz:ZhW g k=0
         ·rw[hz]at h2;refine kw1 kO (kc1 hx) (kc1 h2) ?_;refine⟨k+1,?_,kN kc0 [],?_⟩
          ·exact⟨hlt,Zlt hinv3 hz⟩
          ·omega
         ·refine kw1 kO (kc2 hx hz) (kc1 h2) ?_;exact Zai (by rw[ZhX hinv3 hz _ hlt])
        ·refine kw1 kO kc0 kc0 ?_;exact Zai (by rw[show g.es.length=k by omega,hinv3])
end Go.Proofs.YtjjbhjnpeenbkaaGreatDoor.Gr
