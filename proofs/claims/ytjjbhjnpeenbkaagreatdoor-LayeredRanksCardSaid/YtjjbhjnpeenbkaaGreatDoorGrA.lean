/- Names and labels: strings as the program and the reference look at them. -/
import Derived.Test.YtjjbhjnpeenbkaaGreatDoorTypes
set_option linter.unusedSimpArgs false
set_option linter.unusedVariables false
set_option maxHeartbeats 16000000
namespace Go.Proofs.YtjjbhjnpeenbkaaGreatDoor.Gr
open Go Go.PS Go.Proofs
set_option maxRecDepth 100000
attribute [local irreducible] Zad wpG Zaa Zah
abbrev ZaL (s:ByteArray):D:= .sc (.string s)
def Zgy (c:Int):Bool:=(decide (97<=c)&&decide (c<=122))||(decide (65<=c)&&decide (c<=90))||decide (c=95)
def Zgn (c:Int):Bool:=decide (48<=c)&&decide (c<=57)
theorem ZyQ (c:Int):Zaa Tryz.prog 199 [.sc (.int .u8 c)] (.bool (Zgy c)):=by
 refine kE Tryz.func199 ?_;intro hat B X w0;refine kw kO kc0 kc0 ?_
 repeat' first|exact True.intro|refine Bn.mk ?_ ?_|intro hc
 all_goals
  refine Zai ?_;rw[qV];simp[Zgy]
  try omega
theorem ZAX (c:Int):Zaa Tryz.prog 225 [.sc (.int .u8 c)] (.bool (Zgy c)):=by
 refine kE Tryz.func225 ?_;intro hat B X w0;refine kw kO kc0 kc0 ?_
 repeat' first|exact True.intro|refine Bn.mk ?_ ?_|intro hc
 all_goals
  refine Zai ?_;rw[qV];simp[Zgy]
  try omega
theorem ZwW (c:Int):Zaa Tryz.prog 200 [.sc (.int .u8 c)] (.bool (Zgn c)):=by
 refine kE Tryz.func200 ?_;intro hat B X w0;refine kw kO kc0 kc0 ?_
 repeat' first|exact True.intro|refine Bn.mk ?_ ?_|intro hc
 all_goals
  refine Zai ?_;rw[qV];simp[Zgn]
  try omega
theorem ZAU (c:Int):Zaa Tryz.prog 226 [.sc (.int .u8 c)] (.bool (Zgn c)):=by
 refine kE Tryz.func226 ?_;intro hat B X w0;refine kw kO kc0 kc0 ?_
 repeat' first|exact True.intro|refine Bn.mk ?_ ?_|intro hc
 all_goals
  refine Zai ?_;rw[qV];simp[Zgn]
  try omega
def Zfn (s:ByteArray)(n:Nat):Bool:=decide (n<s.size)&&(Zgy ((Zb8 s).getD n 0)||(decide (0<n)&&Zgn ((Zb8 s).getD n 0)))
def Zkt (s:ByteArray):Nat:=((List.range (s.size+1)).findIdx? λ n=> !Zfn s n).getD 0
theorem Zux {s:ByteArray}{n:Nat}(h:∀j,j<n->Zfn s j=true)(hn:Zfn s n=false)(hl:n<=s.size):Zkt s=n:=by
 rw[Zkt,Zfk (k:=n) (qC (by omega)) (by rw[hn];rfl) (λ j y hj hy=>by
  rw[qC (by omega)]at hy;cases hy;rw[h j hj];rfl)]
 rfl
theorem ZEl (s:ByteArray)(hs:s.size<=1000000):Zaa Tryz.prog 147 [ZaL s] (.int (Zkt s)):=by
 have h1:=ZyQ;have h2:=ZwW;refine kE Tryz.func147 ?_;intro hat B X w0;refine kw1 kO kc0 kc0 ?_;refine Zae (λ(n:Nat)=>n<=s.size/\∀j,j<n->Zfn s j=true) (λ n=>[(0, .d (ZaL s)),(3, .int n)]) (λ n=>[]) (λ n=>s.size-n) 0 ?_ ?_ ?_
 ·exact⟨uG _,λ j h=>by omega⟩
 ·exact kN kc0 []
 ·rintro n ⟨hn,hinv⟩;have hg:=λ h=>Zux hinv h hn
  rcases uC n s.size with hlt|hge
  ·generalize hb:(Zb8 s).getD n 0=b;have e:Zfn s n=(Zgy b||(decide (0<n)&&Zgn b)):=by rw[Zfn,hb,yB hlt,kC]
   have h1b:=h1 b;have h2b:=h2 b;rcases c1:Zgy b with _|_<;>rw[c1]at h1b e
   ·by_cases c0:0<n
    ·have c0':(0:Int)<n:=by omega
     rw[yB c0]at e;rcases c2:Zgn b with _|_<;>rw[c2]at h2b e
     ·refine kw1 kO (kc2 hb @c0') (kc2 h1b h2b) ?_;exact Zaf (by rw[hg e])
     ·refine kw1 kO (kc2 hb @c0') (kc2 h1b h2b) ?_;refine⟨n+1,?_,kN kc0 [],?_⟩
      ·exact⟨hlt,λ j hj=>by rcases uC j n with h|h;exact hinv j h;rw[show j=n by omega];exact e⟩
      ·omega
    ·have c0':¬(0:Int)<n:=by omega
     rw[uU c0]at e;refine kw1 kO (kc2 hb @c0') (kc1 h1b) ?_;exact Zaf (by rw[hg e])
   ·refine kw1 kO (kc1 hb) (kc1 h1b) ?_;refine⟨n+1,?_,kN kc0 [],?_⟩
    ·exact⟨hlt,λ j hj=>by rcases uC j n with h|h;exact hinv j h;rw[show j=n by omega];exact e⟩
    ·omega
  ·refine kw1 kO kc0 kc0 ?_;exact Zaf (by rw[hg (by simp[Zfn];omega)])
theorem ZA6 (s:ByteArray)(hs:s.size<=1000000):Zaa Tryz.prog 184 [ZaL s] (.int (Zkt s)):=by
 have h1:=ZAX;have h2:=ZAU;refine kE Tryz.func184 ?_;intro hat B X w0;refine kw1 kO kc0 kc0 ?_;refine Zae (λ(n:Nat)=>n<=s.size/\∀j,j<n->Zfn s j=true) (λ n=>[(0, .d (ZaL s)),(3, .int n)]) (λ n=>[]) (λ n=>s.size-n) 0 ?_ ?_ ?_
 ·exact⟨uG _,λ j h=>by omega⟩
 ·exact kN kc0 []
 ·rintro n ⟨hn,hinv⟩;have hg:=λ h=>Zux hinv h hn
  rcases uC n s.size with hlt|hge
  ·generalize hb:(Zb8 s).getD n 0=b;have e:Zfn s n=(Zgy b||(decide (0<n)&&Zgn b)):=by rw[Zfn,hb,yB hlt,kC]
   have h1b:=h1 b;have h2b:=h2 b;rcases c1:Zgy b with _|_<;>rw[c1]at h1b e
   ·by_cases c0:0<n
    ·have c0':(0:Int)<n:=by omega
     rw[yB c0]at e;rcases c2:Zgn b with _|_<;>rw[c2]at h2b e
     ·refine kw1 kO (kc2 hb @c0') (kc2 h1b h2b) ?_;exact Zaf (by rw[hg e])
     ·refine kw1 kO (kc2 hb @c0') (kc2 h1b h2b) ?_;refine⟨n+1,?_,kN kc0 [],?_⟩
      ·exact⟨hlt,λ j hj=>by rcases uC j n with h|h;exact hinv j h;rw[show j=n by omega];exact e⟩
      ·omega
    ·have c0':¬(0:Int)<n:=by omega
     rw[uU c0]at e;refine kw1 kO (kc2 hb @c0') (kc1 h1b) ?_;exact Zaf (by rw[hg e])
   ·refine kw1 kO (kc1 hb) (kc1 h1b) ?_;refine⟨n+1,?_,kN kc0 [],?_⟩
    ·exact⟨hlt,λ j hj=>by rcases uC j n with h|h;exact hinv j h;rw[show j=n by omega];exact e⟩
    ·omega
  ·refine kw1 kO kc0 kc0 ?_;exact Zaf (by rw[hg (by simp[Zfn];omega)])
def ZjI (s:ByteArray):Bool:=decide (s=⟨#[100,105,103,114,97,112,104]⟩)||decide (s=⟨#[103,114,97,112,104]⟩)||decide (s=⟨#[110,111,100,101]⟩)||decide (s=⟨#[101,100,103,101]⟩)||decide (s=⟨#[115,101,116]⟩)||decide (s=⟨#[99,108,117,115,116,101,114]⟩)
theorem Zyj (s:ByteArray):Zaa Tryz.prog 148 [ZaL s] (.bool (ZjI s)):=by
 refine kE Tryz.func148 ?_;intro hat B X w0
 repeat' first|refine ZbH rfl ?_|refine Za0 ?_|refine wR ?_|(refine ZbM rfl rfl (λ hc=>?_) (λ hc=>?_)<;>try simp only[hcL]at hc)|(refine ZbL _ rfl rfl (λ hc=>?_) (λ hc=>?_)<;>(try simp only[hcL]at hc)<;>try omega)|simp(disch:=omega) only[go_sem,simprocAttr]|apply And.intro|omega|decide+kernel
 all_goals
  refine Zai ?_
  simp_all [ZjI]
theorem ZAV (s:ByteArray):Zaa Tryz.prog 185 [ZaL s] (.bool (ZjI s)):=by
 refine kE Tryz.func185 ?_;intro hat B X w0
 repeat' first|refine ZbH rfl ?_|refine Za0 ?_|refine wR ?_|(refine ZbM rfl rfl (λ hc=>?_) (λ hc=>?_)<;>try simp only[hcL]at hc)|(refine ZbL _ rfl rfl (λ hc=>?_) (λ hc=>?_)<;>(try simp only[hcL]at hc)<;>try omega)|simp(disch:=omega) only[go_sem,simprocAttr]|apply And.intro|omega|decide+kernel
 all_goals
  refine Zai ?_
  simp_all [ZjI]
def ZcR (s:ByteArray):Bool:=decide (s≠⟨#[]⟩)&&decide (s.size<=16)&&decide (Zkt s=s.size)&& !ZjI s
theorem Zlr (s:ByteArray)(hs:s.size<=1000000):Zaa Tryz.prog 90 [ZaL s] (.bool (ZcR s)):=by
 have h1:=ZEl s hs;have h2:=Zyj s;refine kE Tryz.func90 ?_;intro hat B X w0;refine kw kO kc0 (kc2 h1 h2) ?_
 repeat' first|exact True.intro|refine Bn.mk ?_ ?_|intro hc
 all_goals
  refine Zai ?_;rw[qV];simp[ZcR]
  first|done|omega|(intro _;exact⟨⟨by assumption,by omega⟩,by omega⟩)|(intros;contradiction)
theorem ZlC (s:ByteArray)(hs:s.size<=1000000):Zaa Tryz.prog 129 [ZaL s] (.bool (ZcR s)):=by
 have h1:=ZA6 s hs;have h2:=ZAV s;refine kE Tryz.func129 ?_;intro hat B X w0;refine kw kO kc0 (kc2 h1 h2) ?_
 repeat' first|exact True.intro|refine Bn.mk ?_ ?_|intro hc
 all_goals
  refine Zai ?_;rw[qV];simp[ZcR]
  first|done|omega|(intro _;exact⟨⟨by assumption,by omega⟩,by omega⟩)|(intros;contradiction)
structure Pt where
 nm:ByteArray
 sd:Int
structure Nd where
 nm:ByteArray
 lb:ByteArray
 w:Int
 h:Int
 cl:Int
 ps:List Pt
structure Ed where
 fr:Int
 to:Int
 fp:Int
 tp:Int
 lb:ByteArray
 wt:Int
 ln:Int
structure Cl where
 nm:ByteArray
 pa:Int
structure Gph where
 nm:ByteArray
 dir:Bool
 ns:List Nd
 es:List Ed
 cs:List Cl
abbrev ptD (p:Pt):D:= .ag [ZaL p.nm, .int p.sd]
abbrev ndD (n:Nd):D:= .ag [ZaL n.nm,ZaL n.lb, .int n.w, .int n.h, .int n.cl, .sl (n.ps.map ptD)]
abbrev edD (e:Ed):D:= .ag [.int e.fr, .int e.to, .int e.fp, .int e.tp,ZaL e.lb, .int e.wt, .int e.ln]
abbrev clD (c:Cl):D:= .ag [ZaL c.nm, .int c.pa]
abbrev Zbf (g:Gph):D:= .ag [ZaL g.nm, .bool g.dir, .sl (g.ns.map ndD), .sl (g.es.map edD), .sl (g.cs.map clD)]
def fe (f:Nat->Int):Nat->Int
 |0=>0
 |k+1=>if fe f k=0 then f k else fe f k
theorem Zg1 {f:Nat->Int}{k:Nat}(h:fe f k=0)(hk:f k=0):fe f (k+1)=0:=by rw[fe,if_pos h,hk]
theorem Zd0 {f:Nat->Int}{k:Nat}(h:fe f k=0)(hk:f k≠0):∀n,k<n->fe f n=f k:=by
 intro n
 induction n with
 |zero=>intro hn;omega
 |succ n ih=>
  intro hn;rw[fe];rcases uC k n with h1|h1
  ·rw[ih h1,if_neg hk]
  ·rw[show n=k by omega,if_pos h]
theorem ZqF {f:Nat->Int}:∀{n:Nat},fe f n=0->∀k,k<n->f k=0:=by
 intro n
 induction n with
 |zero=>intro _ k hk;omega
 |succ n ih=>
  intro h k hk;rw[fe]at h;by_cases h0:fe f n=0
  ·rw[if_pos h0]at h;rcases uC k n with h1|h1
   ·exact ih h0 k h1
   ·rw[show k=n by omega];exact h
  ·rw[if_neg h0]at h;exact absurd h h0
theorem Zx1 (l:List Nd)(g:Nat)(caps:List D)(p:Nd->Bool)(hp:∀x,Zaa Tryz.prog g (ndD x::caps) (.bool (p x))):Zaa Tryz.prog 201 [.sl (l.map ndD), .fn g caps] (.int (Zc6 (l.findIdx? p))):=by
 refine kE Tryz.func201 ?_;intro hat B X w0;have hl:=ZaY 0 hat rfl;rw[uD]at hl;refine kw1 kO kc0 kc0 ?_;refine Zae (λ(k:Nat)=>k<=l.length/\∀(j:Nat) y,j<k->l[j]? =some y->p y=false) (λ k=>[(0, .d (.sl (l.map ndD))),(1, .d (.fn g caps)),(7, .int l.length),(8, .int k)]) (λ k=>[]) (λ k=>l.length-k) 0 ?_ ?_ ?_
 ·exact⟨uG _,λ j y h=>by omega⟩
 ·exact kN kc0 []
 ·rintro k ⟨hk,hinv⟩;rcases uC k l.length with hlt|hge
  ·obtain⟨x,hx⟩:=Zac hlt;have hpx:=hp x;rcases hb:p x with _|_<;>rw[hb]at hpx
   ·refine kw1 kO (kc1 hx) (kc1 (kcc [ndD x] caps hpx)) ?_;refine⟨k+1,?_,kN kc0 [],?_⟩
    ·exact⟨by omega,Zbj hinv hx hb⟩
    ·omega
   ·refine kw1 kO (kc1 hx) (kc1 (kcc [ndD x] caps hpx)) ?_;refine Zaf ?_;rw[Zfk hx hb hinv];rfl
  ·refine kw1 kO kc0 kc0 ?_;refine Zaf ?_;rw[ZfW (λ j y hy=>hinv j y (by have:=(uB.1 hy).1;omega) hy)];rfl
theorem Zx2 (l:List Pt)(g:Nat)(caps:List D)(p:Pt->Bool)(hp:∀x,Zaa Tryz.prog g (ptD x::caps) (.bool (p x))):Zaa Tryz.prog 235 [.sl (l.map ptD), .fn g caps] (.int (Zc6 (l.findIdx? p))):=by
 refine kE Tryz.func235 ?_;intro hat B X w0;have hl:=ZaY 0 hat rfl;rw[uD]at hl;refine kw1 kO kc0 kc0 ?_;refine Zae (λ(k:Nat)=>k<=l.length/\∀(j:Nat) y,j<k->l[j]? =some y->p y=false) (λ k=>[(0, .d (.sl (l.map ptD))),(1, .d (.fn g caps)),(7, .int l.length),(8, .int k)]) (λ k=>[]) (λ k=>l.length-k) 0 ?_ ?_ ?_
 ·exact⟨uG _,λ j y h=>by omega⟩
 ·exact kN kc0 []
 ·rintro k ⟨hk,hinv⟩;rcases uC k l.length with hlt|hge
  ·obtain⟨x,hx⟩:=Zac hlt;have hpx:=hp x;rcases hb:p x with _|_<;>rw[hb]at hpx
   ·refine kw1 kO (kc1 hx) (kc1 (kcc [ptD x] caps hpx)) ?_;refine⟨k+1,?_,kN kc0 [],?_⟩
    ·exact⟨by omega,Zbj hinv hx hb⟩
    ·omega
   ·refine kw1 kO (kc1 hx) (kc1 (kcc [ptD x] caps hpx)) ?_;refine Zaf ?_;rw[Zfk hx hb hinv];rfl
  ·refine kw1 kO kc0 kc0 ?_;refine Zaf ?_;rw[ZfW (λ j y hy=>hinv j y (by have:=(uB.1 hy).1;omega) hy)];rfl
theorem ZxY (l:List Cl)(g:Nat)(caps:List D)(p:Cl->Bool)(hp:∀x,Zaa Tryz.prog g (clD x::caps) (.bool (p x))):Zaa Tryz.prog 205 [.sl (l.map clD), .fn g caps] (.int (Zc6 (l.findIdx? p))):=by
 refine kE Tryz.func205 ?_;intro hat B X w0;have hl:=ZaY 0 hat rfl;rw[uD]at hl;refine kw1 kO kc0 kc0 ?_;refine Zae (λ(k:Nat)=>k<=l.length/\∀(j:Nat) y,j<k->l[j]? =some y->p y=false) (λ k=>[(0, .d (.sl (l.map clD))),(1, .d (.fn g caps)),(7, .int l.length),(8, .int k)]) (λ k=>[]) (λ k=>l.length-k) 0 ?_ ?_ ?_
 ·exact⟨uG _,λ j y h=>by omega⟩
 ·exact kN kc0 []
 ·rintro k ⟨hk,hinv⟩;rcases uC k l.length with hlt|hge
  ·obtain⟨x,hx⟩:=Zac hlt;have hpx:=hp x;rcases hb:p x with _|_<;>rw[hb]at hpx
   ·refine kw1 kO (kc1 hx) (kc1 (kcc [clD x] caps hpx)) ?_;refine⟨k+1,?_,kN kc0 [],?_⟩
    ·exact⟨by omega,Zbj hinv hx hb⟩
    ·omega
   ·refine kw1 kO (kc1 hx) (kc1 (kcc [clD x] caps hpx)) ?_;refine Zaf ?_;rw[Zfk hx hb hinv];rfl
  ·refine kw1 kO kc0 kc0 ?_;refine Zaf ?_;rw[ZfW (λ j y hy=>hinv j y (by have:=(uB.1 hy).1;omega) hy)];rfl
theorem ZwE (l:List Pt)(g:Nat)(caps:List D)(p:Pt->Bool)(hp:∀x,Zaa Tryz.prog g (ptD x::caps) (.bool (p x))):Zaa Tryz.prog 203 [.sl (l.map ptD), .fn g caps] (.bool (l.any p)):=by
 have h:=Zx2 l g caps p hp;refine kE Tryz.func203 ?_;intro hat B X w0;refine kw1 kO kc0 (kc1 h) ?_;exact Zai (ZhU p l)
theorem ZwC (l:List Cl)(g:Nat)(caps:List D)(p:Cl->Bool)(hp:∀x,Zaa Tryz.prog g (clD x::caps) (.bool (p x))):Zaa Tryz.prog 153 [.sl (l.map clD), .fn g caps] (.bool (l.any p)):=by
 have h:=ZxY l g caps p hp;refine kE Tryz.func153 ?_;intro hat B X w0;refine kw1 kO kc0 (kc1 h) ?_;exact Zai (ZhU p l)
theorem Zxm (n:Nd)(s:ByteArray):Zaa Tryz.prog 202 [ndD n, .pt [ZaL s]] (.bool (decide (n.nm=s))):=by
 refine kE Tryz.func202 ?_;intro hat B X w0;refine kw1 kO kc0 kc0 ?_;exact Zai rfl
theorem Zwv (c:Cl)(s:ByteArray)(k:Int):Zaa Tryz.prog 154 [clD c, .pt [ZaL s, .int k]] (.bool (decide (c.nm=s))):=by
 refine kE Tryz.func154 ?_;intro hat B X w0;refine kw1 kO kc0 kc0 ?_;exact Zai rfl
theorem ZAw (c:Pt)(s:ByteArray)(k:Int):Zaa Tryz.prog 204 [ptD c, .pt [ZaL s, .int k]] (.bool (decide (c.nm=s))):=by
 refine kE Tryz.func204 ?_;intro hat B X w0;refine kw1 kO kc0 kc0 ?_;exact Zai rfl
def ZcQ (g:Gph)(s:ByteArray):Int:=Zc6 (g.ns.findIdx? λ n=>decide (n.nm=s))
theorem Zjy (g:Gph)(s:ByteArray):Zaa Tryz.prog 149 [Zbf g,ZaL s] (.int (ZcQ g s)):=by
 have h:=Zx1 g.ns 202 [.pt [ZaL s]] (λ n=>decide (n.nm=s)) (λ x=>Zxm x s);refine kE Tryz.func149 ?_;intro hat B X w0;refine kw1 kO kc0 (kc1 h) ?_;exact Zaf rfl
def ZbU (c:Int):Bool:=decide (c<32)||decide (126<c)
def ZcH (s:ByteArray):Int:=if 32<s.size then 2 else if(Zb8 s).any ZbU then 7 else 0
theorem ZpT {s:ByteArray}{k:Nat}(h:k<s.size):(Zb8 s)[k]? =some ((Zb8 s).getD k 0):=by
 have:=Zfg s;rw[gZ,uQ (by omega)];rfl
theorem Zro (s:ByteArray):Zaa Tryz.prog 150 [ZaL s] (.int (ZcH s)):=by
 have hbl:=Zfg s;have hbd:(Zdr s).length=s.size:=by rw[Zdr,uD,hbl]
 rw[ZcH];by_cases h32:32<s.size
 ·rw[if_pos h32];refine kE Tryz.func150 ?_;intro hat B X w0;refine kw1 kO kc0 kc0 ?_;exact Zaf rfl
 ·rw[if_neg h32];refine kE Tryz.func150 ?_;intro hat B X w0;refine kw1 kO (kc1 hbd) kc0 ?_;refine Zae (λ(k:Nat)=>k<=s.size/\∀(j:Nat) y,j<k->(Zb8 s)[j]? =some y->ZbU y=false) (λ k=>[(9, .d (.sl (Zdr s))),(10, .int s.size),(11, .int k)]) (λ k=>[]) (λ k=>s.size-k) 0 ?_ ?_ ?_
  ·exact⟨uG _,λ j y h=>by omega⟩
  ·exact kN kc0 []
  ·rintro k ⟨hk,hinv⟩;rcases uC k s.size with hlt|hge
   ·have hx:=ZpT hlt;generalize(Zb8 s).getD k 0=c at hx;have hd:(Zdr s)[k]? =some (.sc (.int .u8 c)):=by rw[Zdr,uJ,hx];rfl
    by_cases h1:c<32
    ·refine kw1 kO (kc3 hd hbd h1) kc0 ?_;refine Zaf ?_;rw[if_pos (Zb0 (q:=ZbU) hx (by rw[ZbU,yB h1];rfl))]
    ·by_cases h2:126<c
     ·refine kw1 kO (kc4 hd hbd h1 h2) kc0 ?_;refine Zaf ?_;rw[if_pos (Zb0 (q:=ZbU) hx (by rw[ZbU,yB h2,Db]))]
     ·refine kw1 kO (kc4 hd hbd h1 h2) kc0 ?_;refine⟨k+1,?_,kN kc0 [],?_⟩
      ·exact⟨hlt,Zbj hinv hx (by rw[ZbU,uU h1,uU h2];rfl)⟩
      ·omega
   ·refine kw1 kO kc0 kc0 ?_;refine Zaf ?_;rw[if_neg (by rw[Zck (q:=ZbU) (λ j y hj=>hinv j y (by omega))];decide)]
theorem ZsT (s:ByteArray)(hs:s.size<=1000000):Zaa Tryz.prog 187 [ZaL s] (.bool (!(Zb8 s).any ZbU)):=by
 have hbl:=Zfg s;refine kE Tryz.func187 ?_;intro hat B X w0;refine kw1 kO kc0 kc0 ?_;refine Zae (λ(k:Nat)=>k<=s.size/\∀(j:Nat) y,j<k->(Zb8 s)[j]? =some y->ZbU y=false) (λ k=>[(0, .d (ZaL s)),(3, .int k)]) (λ k=>[]) (λ k=>s.size-k) 0 ?_ ?_ ?_
 ·exact⟨uG _,λ j y h=>by omega⟩
 ·exact kN kc0 []
 ·rintro k ⟨hk,hinv⟩;rcases uC k s.size with hlt|hge
  ·have hx:=ZpT hlt;generalize hc:(Zb8 s).getD k 0=c at hx;by_cases h1:c<32
   ·refine kw1 kO (kc2 hc h1) kc0 ?_;refine Zai ?_;rw[Zb0 (q:=ZbU) hx (by rw[ZbU,yB h1];rfl)];rfl
   ·by_cases h2:126<c
    ·refine kw1 kO (kc3 hc h1 h2) kc0 ?_;refine Zai ?_;rw[Zb0 (q:=ZbU) hx (by rw[ZbU,yB h2,Db])];rfl
    ·refine kw1 kO (kc3 hc h1 h2) kc0 ?_;refine⟨k+1,?_,kN kc0 [],?_⟩
     ·exact⟨hlt,Zbj hinv hx (by rw[ZbU,uU h1,uU h2];rfl)⟩
     ·omega
  ·refine kw1 kO kc0 kc0 ?_;refine Zai ?_;rw[Zck (q:=ZbU) (λ j y hj=>hinv j y (by omega))];rfl
def Zge (n:Int):Bool:=decide (1<=n)&&decide (n<=1048576)
theorem Zkj (n:Int):Zaa Tryz.prog 151 [.int n] (.bool (Zge n)):=by
 refine kE Tryz.func151 ?_;intro hat B X w0;refine kw kO kc0 kc0 ?_
 repeat' first|exact True.intro|refine Bn.mk ?_ ?_|intro hc
 all_goals
  refine Zai ?_;rw[qV];simp[Zge]
  try omega
def ZiU (l:List Pt)(i:Nat):Int:=match l[i]? with
 |none=>0
 |some p=>if ZcR p.nm=false then 5 else if(l.take i).any (λ q=>decide (q.nm=p.nm))then 6 else if p.sd<0\/3<p.sd then 7 else 0
def Zka (l:List Pt):Int:=if 8<l.length then 2 else fe (ZiU l) l.length
theorem ZsD {l:List Pt}{i:Nat}{p:Pt}(h:l[i]? =some p):ZiU l i=if ZcR p.nm=false then 5 else if(l.take i).any (λ q=>decide (q.nm=p.nm))then 6 else if p.sd<0\/3<p.sd then 7 else 0:=by rw[ZiU,h]
theorem ZAx (l:List Pt)(hn:∀p∈l,p.nm.size<=1000000):Zaa Tryz.prog 152 [.sl (l.map ptD)] (.int (Zka l)):=by
 rw[Zka];by_cases h8:8<l.length
 ·rw[if_pos h8];refine kE Tryz.func152 ?_;intro hat B X w0;refine kw1 kO kc0 kc0 ?_;exact Zaf rfl
 ·rw[if_neg h8];refine kE Tryz.func152 ?_;intro hat B X w0;refine kw1 kO kc0 kc0 ?_;refine Zae (λ(k:Nat)=>k<=l.length/\fe (ZiU l) k=0) (λ k=>[(0, .d (.sl (l.map ptD))),(8, .d (.sl (l.map ptD))),(9, .int l.length),(10, .int k)]) (λ k=>[]) (λ k=>l.length-k) 0 ?_ ?_ ?_
  ·exact⟨uG _,rfl⟩
  ·exact kN kc0 []
  ·rintro k ⟨hk,hinv⟩;rcases uC k l.length with hlt|hge
   ·obtain⟨p,hp⟩:=Zac hlt;have e:=ZsD hp;have h1:=Zlr p.nm (hn p (uA hp));have h2:=ZwE (l.take k) 204 [.pt [ZaL p.nm, .int p.sd]] (λ q=>decide (q.nm=p.nm)) (λ x=>ZAw x p.nm p.sd);have hlt':(l.take k).map ptD=(l.map ptD).take k:=Ao;rw[hlt']at h2;rcases c1:ZcR p.nm with _|_<;>rw[c1]at h1 e
    ·rw[if_pos rfl]at e;refine kw1 kO (kc1 hp) (kc1 h1) ?_;exact Zaf (by rw[Zd0 hinv (by rw[e];decide) _ hlt,e])
    ·rw[if_neg (by decide)]at e;rcases c2:(l.take k).any (λ q=>decide (q.nm=p.nm))with _|_<;>rw[c2]at h2 e
     ·rw[if_neg (by decide)]at e;by_cases c3:p.sd<0
      ·rw[if_pos (.inl c3)]at e;refine kw kO (kc2 hp c3) (kc2 h1 h2) ?_
       repeat' first|exact True.intro|refine Bn.mk ?_ ?_|intro hc
       exact Zaf (by rw[Zd0 hinv (by rw[e];decide) _ hlt,e])
      ·by_cases c4:3<p.sd
       ·rw[if_pos (.inr c4)]at e;refine kw kO (kc3 hp c3 c4) (kc2 h1 h2) ?_
        repeat' first|exact True.intro|refine Bn.mk ?_ ?_|intro hc
        exact Zaf (by rw[Zd0 hinv (by rw[e];decide) _ hlt,e])
       ·rw[if_neg (by omega)]at e;refine kw kO (kc3 hp c3 c4) (kc2 h1 h2) ?_
        repeat' first|exact True.intro|refine Bn.mk ?_ ?_|intro hc
        refine⟨k+1,?_,eL [] _ _ (by refine⟨?_,?_⟩<;>(repeat' first|exact fmn|refine fmc ⟨(by first|rfl|(simp(disch:=omega) only[go_sem,simprocAttr,inL];first|done|omega|(congr 1;done))),?_⟩);done),?_⟩
        ·exact⟨hlt,Zg1 hinv e⟩
        ·omega
     ·rw[if_pos rfl]at e;refine kw kO (kc1 hp) (kc2 h1 h2) ?_
      repeat' first|exact True.intro|refine Bn.mk ?_ ?_|intro hc
      exact Zaf (by rw[Zd0 hinv (by rw[e];decide) _ hlt,e])
   ·refine kw1 kO kc0 kc0 ?_;exact Zaf (by rw[show l.length=k by omega,hinv])
theorem ZAY (l:List Pt)(hn:∀p∈l,p.nm.size<=1000000):Zaa Tryz.prog 188 [.sl (l.map ptD)] (.int (fe (ZiU l) l.length)):=by
 refine kE Tryz.func188 ?_;intro hat B X w0;have hl:=ZaY 0 hat rfl;rw[uD]at hl;refine kw1 kO kc0 kc0 ?_;refine Zae (λ(k:Nat)=>k<=l.length/\fe (ZiU l) k=0) (λ k=>[(0, .d (.sl (l.map ptD))),(3, .int k)]) (λ k=>[]) (λ k=>l.length-k) 0 ?_ ?_ ?_
 ·exact⟨uG _,rfl⟩
 ·exact kN kc0 []
 ·rintro k ⟨hk,hinv⟩;rcases uC k l.length with hlt|hge
  ·obtain⟨p,hp⟩:=Zac hlt;have e:=ZsD hp;have h1:=ZlC p.nm (hn p (uA hp));rcases c1:ZcR p.nm with _|_<;>rw[c1]at h1 e
   ·rw[if_pos rfl]at e;refine kw1 kO (kc1 hp) (kc1 h1) ?_;exact Zaf (by rw[Zd0 hinv (by rw[e];decide) _ hlt,e])
   ·rw[if_neg (by decide)]at e;refine kw1 kO (kc1 hp) (kc1 h1) ?_;refine Zae (λ(j:Nat)=>j<=k/\∀(i:Nat) y,i<j->l[i]? =some y->decide (y.nm=p.nm)=false) (λ j=>[(0, .d (.sl (l.map ptD))),(3, .int k),(4, .int j)]) (λ j=>[]) (λ j=>k-j) 0 ?_ ?_ ?_
    ·exact⟨uG _,λ j y h=>by omega⟩
    ·exact kN kc0 []
    ·rintro j ⟨hj,hjn⟩;rcases uC j k with hjk|hjk
     ·obtain⟨q,hq⟩:=Zac (l:=l) (k:=j) (by omega);by_cases cq:q.nm=p.nm
      ·have hany:(l.take k).any (λ q=>decide (q.nm=p.nm))=true:=Zb0 (k:=j) (by rw[jI hjk];exact hq) (yB cq);rw[hany,if_pos rfl]at e;refine kw1 kO (kc3 hp hq cq) kc0 ?_;exact Zaf (by rw[Zd0 hinv (by rw[e];decide) _ hlt,e])
      ·refine kw1 kO (kc3 hp hq cq) kc0 ?_;refine⟨j+1,?_,kN kc0 [],?_⟩
       ·exact⟨hjk,Zbj hjn hq (uU cq)⟩
       ·omega
     ·have hany:(l.take k).any (λ q=>decide (q.nm=p.nm))=false:=Zck (λ i y hi hy=>by
       rw[yF]at hi;rw[jI (by omega)]at hy;exact hjn i y (by omega) hy)
      rw[hany,if_neg (by decide)]at e;by_cases c3:p.sd<0
      ·rw[if_pos (.inl c3)]at e;refine kw1 kO (kc2 hp c3) kc0 ?_;exact Zaf (by rw[Zd0 hinv (by rw[e];decide) _ hlt,e])
      ·by_cases c4:3<p.sd
       ·rw[if_pos (.inr c4)]at e;refine kw1 kO (kc3 hp c3 c4) kc0 ?_;exact Zaf (by rw[Zd0 hinv (by rw[e];decide) _ hlt,e])
       ·rw[if_neg (by omega)]at e;refine kw1 kO (kc3 hp c3 c4) kc0 ?_;refine⟨k+1,?_,kN kc0 [],?_⟩
        ·exact⟨hlt,Zg1 hinv e⟩
        ·omega
  ·refine kw1 kO kc0 kc0 ?_;exact Zaf (by rw[show l.length=k by omega,hinv])
structure Mod (g:Gph):Prop where
 nm:g.nm.size<=1000000
 ns:∀n∈g.ns,n.nm.size<=1000000/\n.lb.size<=1000000/\∀p∈n.ps,p.nm.size<=1000000
 es:∀e∈g.es,e.lb.size<=1000000
 cs:∀c∈g.cs,c.nm.size<=1000000
def Zfu (g:Gph)(i:Nat):Int:=match g.ns[i]? with
 |none=>0
 |some n=>if ZcR n.nm=false then 5 else if ZcQ g n.nm<i then 6 else if ZcH n.lb≠0 then ZcH n.lb
  else if Zge n.w=false\/Zge n.h=false\/n.cl< -1\/(g.cs.length:Int)<=n.cl then 3 else Zka n.ps
def Zgm (cs:List Cl):Nat->Int->List Int
 |0,_=>[]
 |f+1,c=>if c<0 then[]else c::Zgm cs f (match cs[c.toNat]? with|some x=>x.pa|none=>-1)
def ZcN (cs:List Cl)(c:Int):List Int:=Zgm cs (c+1).toNat c
def Zeo (g:Gph)(i:Nat):Int:=match g.cs[i]? with
 |none=>0
 |some c=>if ZcR c.nm=false then 5 else if 0<=ZcQ g c.nm\/(g.cs.take i).any (λ x=>decide (x.nm=c.nm))=true then 6 else if c.pa< -1\/(i:Int)<=c.pa then 3 else if 6<(ZcN g.cs i).length then 2 else 0
def Zlz (g:Gph)(v:Int):Nat:=match g.ns[v.toNat]? with|some n=>n.ps.length|none=>0
def ZfS (g:Gph)(e:Ed):Int:=
 if e.fr<0\/e.to<0\/(g.ns.length:Int)<=e.fr\/(g.ns.length:Int)<=e.to\/e.fp< -1\/e.tp< -1\/(Zlz g e.fr:Int)<=e.fp\/(Zlz g e.to:Int)<=e.tp then 3
 else if ZcH e.lb≠0 then ZcH e.lb else if e.wt<1\/1000<e.wt\/e.ln<1\/64<e.ln then 7 else 0
def Zfi (g:Gph)(i:Nat):Int:=match g.es[i]? with|none=>0|some e=>ZfS g e
def ZcW (g:Gph):Int:=if 64<g.ns.length\/256<g.es.length\/16<g.cs.length then 2 else if ZcR g.nm=false then 5
 else if fe (Zfu g) g.ns.length≠0 then fe (Zfu g) g.ns.length else if fe (Zeo g) g.cs.length≠0 then fe (Zeo g) g.cs.length else fe (Zfi g) g.es.length
theorem Zsa {g:Gph}{i:Nat}{n:Nd}(h:g.ns[i]? =some n):Zfu g i=if ZcR n.nm=false then 5 else if ZcQ g n.nm<i then 6 else if ZcH n.lb≠0 then ZcH n.lb
  else if Zge n.w=false\/Zge n.h=false\/n.cl< -1\/(g.cs.length:Int)<=n.cl then 3 else Zka n.ps:=by rw[Zfu,h]
theorem ZmK {g:Gph}{i:Nat}{c:Cl}(h:g.cs[i]? =some c):Zeo g i=if ZcR c.nm=false then 5 else if 0<=ZcQ g c.nm\/(g.cs.take i).any (λ x=>decide (x.nm=c.nm))=true then 6 else if c.pa< -1\/(i:Int)<=c.pa then 3 else if 6<(ZcN g.cs i).length then 2 else 0:=by rw[Zeo,h]
theorem Zxo {g:Gph}{i:Nat}{n:Nd}(h:g.ns[i]? =some n):0<=ZcQ g n.nm/\ZcQ g n.nm<=i:=by
 rw[ZcQ];cases hf:g.ns.findIdx? (λ m=>decide (m.nm=n.nm))with
 |none=>
  rw[Bi]at hf;have:=hf n (uA h);simp at this
 |some j=>
  obtain⟨h1,h2,h3⟩:=kQ.1 hf;simp only[Zc6];refine⟨by omega,?_⟩;rcases uC i j with hlt|hge
  ·have:=h3 i hlt;obtain⟨hi,he⟩:=uB.1 h;rw[he]at this;simp at this
  ·omega
theorem Zzy (g:Gph)(i:Nat)(hm:Mod g)(hi:i<g.ns.length):Zaa Tryz.prog 91 [Zbf g, .int i] (.int (Zfu g i)):=by
 obtain⟨n,hn⟩:=Zac hi;obtain⟨m1,m2,m3⟩:=hm.ns n (uA hn);have e:=Zsa hn;have h1:=Zlr n.nm m1;have h2:=Zjy g n.nm;have h3:=Zro n.lb;have h4:=Zkj n.w;have h5:=Zkj n.h;have h6:=ZAx n.ps m3;rw[e];rcases c1:ZcR n.nm with _|_<;>rw[c1]at h1
 ·rw[if_pos rfl];refine kE Tryz.func91 ?_;intro hat B X w0;refine kw1 kO (kc1 hn) (kc1 h1) ?_;exact Zaf rfl
 ·rw[if_neg (by decide)];by_cases c2:ZcQ g n.nm<i
  ·rw[if_pos c2];refine kE Tryz.func91 ?_;intro hat B X w0;refine kw1 kO (kc2 hn c2) (kc2 h1 h2) ?_;exact Zaf rfl
  ·rw[if_neg c2];by_cases c3:ZcH n.lb=0
   ·rw[if_neg (by omega)];rw[c3]at h3;rcases c4:Zge n.w with _|_<;>rw[c4]at h4
    ·rw[if_pos (.inl rfl)];refine kE Tryz.func91 ?_;intro hat B X w0;refine kw1 kO (kc2 hn c2) (kc4 h1 h2 h3 h4) ?_;exact Zaf rfl
    ·rcases c5:Zge n.h with _|_<;>rw[c5]at h5
     ·rw[if_pos (.inr (.inl rfl))];refine kE Tryz.func91 ?_;intro hat B X w0;refine kw1 kO (kc2 hn c2) (kc5 h1 h2 h3 h4 h5) ?_;exact Zaf rfl
     ·by_cases c6:n.cl< -1
      ·rw[if_pos (.inr (.inr (.inl c6)))];refine kE Tryz.func91 ?_;intro hat B X w0;refine kw1 kO (kc3 hn c2 c6) (kc5 h1 h2 h3 h4 h5) ?_;exact Zaf rfl
      ·by_cases c7:(g.cs.length:Int)<=n.cl
       ·rw[if_pos (.inr (.inr (.inr c7)))];refine kE Tryz.func91 ?_;intro hat B X w0;refine kw1 kO (kc4 hn c2 c6 c7) (kc5 h1 h2 h3 h4 h5) ?_;exact Zaf rfl
       ·rw[if_neg (by simp;omega)];refine kE Tryz.func91 ?_;intro hat B X w0;refine kw1 kO (kc4 hn c2 c6 c7) (kc6 h1 h2 h3 h4 h5 h6) ?_;exact Zaf rfl
   ·rw[if_pos (by omega)];refine kE Tryz.func91 ?_;intro hat B X w0;refine kw1 kO (kc3 hn c2 c3) (kc3 h1 h2 h3) ?_;exact Zaf rfl
def Zig (cs:List Cl)(c0:Int):Prop:=∀(j:Nat) x,cs[j]? =some x->(j:Int)<=c0->-1<=x.pa/\x.pa<j
theorem Zwq {cs:List Cl}{c0:Int}(h:Zig cs c0):∀(f:Nat) (c:Int),c<=c0->(c+1).toNat<=f->Zgm cs f c=ZcN cs c:=by
 intro f
 induction f using Nat.strongRecOn with
 |_ f ih=>
  intro c hc hf;by_cases h0:c<0
  ·rw[ZcN,show(c+1).toNat=0 by omega,Zgm];cases f with
   |zero=>rfl
   |succ f=>rw[Zgm,if_pos h0]
  ·obtain⟨k,rfl⟩:∃k:Nat,c=k:=⟨c.toNat,by omega⟩;cases f with
   |zero=>omega
   |succ f=>
    rw[ZcN,show((k:Int)+1).toNat=k+1 by omega,Zgm,Zgm,if_neg (by omega),if_neg (by omega),uK]
    congr 1
    cases hx:cs[k]? with
    |none=>
     dsimp only;rw[ih f (by omega) (-1) (by omega) (by omega)];rcases uC k (f+1)with h1|h1
     ·rcases uC k f with h2|h2
      ·rw[ih k (by omega) (-1) (by omega) (by omega)]
      ·rw[ih k (by omega) (-1) (by omega) (by omega)]
     ·omega
    |some x=>
     dsimp only;obtain⟨g1,g2⟩:=h k x hx hc;rw[ih f (by omega) x.pa (by omega) (by omega),ih k (by omega) x.pa (by omega) (by omega)]
theorem Zp1 (cs:List Cl){c:Int}(h:c<0):ZcN cs c=[]:=by
 rw[ZcN,show(c+1).toNat=0 by omega,Zgm]
theorem Zp2 {cs:List Cl}{c0:Int}(h:Zig cs c0){k:Nat}{x:Cl}(hx:cs[k]? =some x)(hk:(k:Int)<=c0):ZcN cs k=(k:Int)::ZcN cs x.pa:=by
 obtain⟨g1,g2⟩:=h k x hx hk;rw[ZcN,show((k:Int)+1).toNat=k+1 by omega,Zgm,if_neg (by omega),uK,hx];dsimp only;rw[Zwq h k x.pa (by omega) (by omega)]
theorem Zvr (g:Gph)(i:Nat)(hi:i<g.cs.length)(hd:Zig g.cs i)(h1:i<=1000):Zaa Tryz.prog 206 [Zbf g, .int i] (.sl ((ZcN g.cs i).map D.int)):=by
 refine kE Tryz.func206 ?_;intro hat B X w0;refine kw1 kO kc0 kc0 ?_;refine Zaq _ (Zc3 5 901 1 rfl rfl) ?_;refine Zae (λ(q:List Int×Int)=>match q with|(l,c)=>l++ZcN g.cs c=ZcN g.cs i/\-1<=c/\c<=i/\(l.length:Int)+c<=i) (λ(l,c)=>[(1, .int c),(2, .ptr 2 0 0 0),(5, .ref 901 1 0 l.length l.length)]) (λ(l,c)=>[(2, .cells [.d (ZaL g.nm), .d (.bool g.dir), .d (.sl (g.ns.map ndD)), .d (.sl (g.es.map edD)), .d (.sl (g.cs.map clD))]),(901, .row 1 (l.map D.int))]) (λ(l,c)=>(c+1).toNat) ([],(i:Int)) ?_ ?_ ?_
 ·exact⟨rfl,by omega,by omega,by simp⟩
 ·exact kN kc0 []
 ·rintro⟨l,c⟩ ⟨q1,q2,q3,q4⟩;dsimp only at q1 q2 q3 q4|-;by_cases h0:c<0
  ·refine kw1 kO (kc1 h0) kc0 ?_;rw[Zp1 _ h0,yT]at q1;exact Zch (o:=901) rfl rfl (by simp) (by rw[uE (by simp),q1])
  ·obtain⟨k,rfl⟩:∃k:Nat,c=k:=⟨c.toNat,by omega⟩;obtain⟨x,hx⟩:=Zac (l:=g.cs) (k:=k) (by omega);obtain⟨g1,g2⟩:=hd k x hx q3;have hs:=Zp2 hd hx q3;refine kw1 kO (kc2 hx @Zan) kc0 ?_;refine⟨(l++[(k:Int)],x.pa),?_,kN (kc5 @uH.{0} @yL.{0} @uR.{0,0} @uS.{0,0} @yE.{0,0}) [(901,11)],?_⟩
   ·refine⟨?_,by omega,by omega,?_⟩
    ·rw[<-q1,hs,qJ];rfl
    ·rw[uH,yL];omega
   ·dsimp only;omega
theorem ZwV (g:Gph)(i:Nat)(hi:i<g.cs.length)(hd:Zig g.cs i)(h1:i<=1000):Zaa Tryz.prog 155 [Zbf g, .int i] (.int (ZcN g.cs i).length):=by
 have h:=Zvr g i hi hd h1;refine kE Tryz.func155 ?_;intro hat B X w0;refine kw kO kc0 (kc1 h) ?_
 repeat' first|exact True.intro|refine Bn.mk ?_ ?_|intro hc
 exact Zaf rfl
theorem ZAT (g:Gph)(i:Nat)(hi:i<g.cs.length)(hd:Zig g.cs i)(h1:i<=1000):Zaa Tryz.prog 189 [Zbf g, .int i] (.int (ZcN g.cs i).length):=by
 refine kE Tryz.func189 ?_;intro hat B X w0;refine kw1 kO kc0 kc0 ?_;refine Zae (λ(q:Nat×Int)=>match q with|(m,c)=>m+(ZcN g.cs c).length=(ZcN g.cs i).length/\-1<=c/\c<=i/\(m:Int)+c<=i) (λ(m,c)=>[(1, .int c),(2, .ptr 2 0 0 0),(5, .int m)]) (λ(m,c)=>[(2, .cells [.d (ZaL g.nm), .d (.bool g.dir), .d (.sl (g.ns.map ndD)), .d (.sl (g.es.map edD)), .d (.sl (g.cs.map clD))])]) (λ(m,c)=>(c+1).toNat) (0,(i:Int)) ?_ ?_ ?_
 ·exact⟨by omega,by omega,by omega,by omega⟩
 ·exact kN kc0 []
 ·rintro⟨m,c⟩ ⟨q1,q2,q3,q4⟩;dsimp only at q1 q2 q3 q4|-;by_cases h0:c<0
  ·refine kw1 kO (kc1 h0) kc0 ?_;rw[Zp1 _ h0]at q1;exact Zaf (by rw[<-q1];rfl)
  ·obtain⟨k,rfl⟩:∃k:Nat,c=k:=⟨c.toNat,by omega⟩;obtain⟨x,hx⟩:=Zac (l:=g.cs) (k:=k) (by omega);obtain⟨g1,g2⟩:=hd k x hx q3;have hs:=Zp2 hd hx q3;refine kw1 kO (kc1 hx) kc0 ?_;refine⟨(m+1,x.pa),?_,kN kc0 [],?_⟩
   ·refine⟨?_,by omega,by omega,by omega⟩;dsimp only;rw[hs,uX]at q1;omega
   ·dsimp only;omega
theorem Zqr {g:Gph}{i:Nat}(h:fe (Zeo g) i=0){c:Cl}(hc:g.cs[i]? =some c)(h1:¬c.pa< -1)(h2:¬(i:Int)<=c.pa):Zig g.cs i:=by
 intro j x hx hj;rcases uC j i with hlt|hge
 ·have hz:=ZqF h j hlt;rw[ZmK hx]at hz;split at hz
  ·cases hz
  ·split at hz
   ·cases hz
   ·split at hz
    ·cases hz
    ·rename_i hq;omega
 ·obtain rfl:j=i:=by omega
  rw[hc]at hx;cases hx;omega
theorem Zww (g:Gph)(i:Nat)(hm:Mod g)(hi:i<g.cs.length)(hz:fe (Zeo g) i=0)(h16:g.cs.length<=16):Zaa Tryz.prog 92 [Zbf g, .int i] (.int (Zeo g i)):=by
 obtain⟨c,hc⟩:=Zac hi;have e:=ZmK hc;have h1:=Zlr c.nm (hm.cs c (uA hc));have h2:=Zjy g c.nm;have h3:=ZwC (g.cs.take i) 154 [.pt [ZaL c.nm, .int c.pa]] (λ x=>decide (x.nm=c.nm)) (λ x=>Zwv x c.nm c.pa);have ht:(g.cs.take i).map clD=(g.cs.map clD).take i:=Ao;rw[ht]at h3;rw[e];rcases c1:ZcR c.nm with _|_<;>rw[c1]at h1
 ·rw[if_pos rfl];refine kE Tryz.func92 ?_;intro hat B X w0;refine kw1 kO (kc1 hc) (kc1 h1) ?_;exact Zaf rfl
 ·rw[if_neg (by decide)];by_cases c2:0<=ZcQ g c.nm
  ·rw[if_pos (.inl c2)];refine kE Tryz.func92 ?_;intro hat B X w0;refine kw1 kO (kc2 hc c2) (kc2 h1 h2) ?_;exact Zaf rfl
  ·rcases c3:(g.cs.take i).any (λ x=>decide (x.nm=c.nm))with _|_<;>rw[c3]at h3
   ·rw[if_neg (by simp;omega)];by_cases c4:c.pa< -1
    ·rw[if_pos (.inl c4)];refine kE Tryz.func92 ?_;intro hat B X w0;refine kw1 kO (kc3 hc c2 c4) (kc3 h1 h2 h3) ?_;exact Zaf rfl
    ·by_cases c5:(i:Int)<=c.pa
     ·rw[if_pos (.inr c5)];refine kE Tryz.func92 ?_;intro hat B X w0;refine kw1 kO (kc4 hc c2 c4 c5) (kc3 h1 h2 h3) ?_;exact Zaf rfl
     ·rw[if_neg (by omega)];have h4:=ZwV g i hi (Zqr hz hc c4 c5) (by omega);by_cases c6:6<(ZcN g.cs i).length
      ·rw[if_pos c6];refine kE Tryz.func92 ?_;intro hat B X w0;refine kw1 kO (kc5 hc c2 c4 c5 c6) (kc4 h1 h2 h3 h4) ?_;exact Zaf rfl
      ·rw[if_neg c6];refine kE Tryz.func92 ?_;intro hat B X w0;refine kw1 kO (kc5 hc c2 c4 c5 c6) (kc4 h1 h2 h3 h4) ?_;exact Zaf rfl
   ·rw[if_pos (.inr rfl)];refine kE Tryz.func92 ?_;intro hat B X w0;refine kw1 kO (kc2 hc c2) (kc3 h1 h2 h3) ?_;exact Zaf rfl
theorem ZlA {g:Gph}{v:Int}{n:Nd}(h:g.ns[v.toNat]? =some n):Zlz g v=n.ps.length:=by rw[Zlz,h]
theorem ZfZ {a b:Int}(c:Prop)[Decidable c]:(if c then a else b)<b->True:=λ _=>trivial
theorem ZwZ (g:Gph)(e:Ed):Zaa Tryz.prog 93 [Zbf g,edD e] (.int (ZfS g e)):=by
 have h1:=Zro e.lb;by_cases hin:0<=e.fr/\0<=e.to/\e.fr<g.ns.length/\e.to<g.ns.length
 ·obtain⟨i1,i2,i3,i4⟩:=hin;obtain⟨n1,g1⟩:=Zac (l:=g.ns) (k:=e.fr.toNat) (by omega);obtain⟨n2,g2⟩:=Zac (l:=g.ns) (k:=e.to.toNat) (by omega);have p1:=ZlA g1;have p2:=ZlA g2;have q1:¬(if e.to<e.fr then e.to else e.fr)<0:=by split<;>omega
  have q2:¬(g.ns.length:Int)<=(if e.fr<e.to then e.to else e.fr):=by split<;>omega
  rw[ZfS,p1,p2];by_cases hp:e.fp< -1\/e.tp< -1\/(n1.ps.length:Int)<=e.fp\/(n2.ps.length:Int)<=e.tp
  ·rw[if_pos (by omega)];by_cases k1:(if e.tp<e.fp then e.tp else e.fp)< -1
   ·refine kE Tryz.func93 ?_;intro hat B X w0;refine kw1 kO (kc5 g1 g2 q1 q2 k1) kc0 ?_;exact Zaf rfl
   ·have k2:(n1.ps.length:Int)<=e.fp\/(n2.ps.length:Int)<=e.tp:=by split at k1<;>omega
    by_cases k3:(n1.ps.length:Int)<=e.fp
    ·refine kE Tryz.func93 ?_;intro hat B X w0;refine kw1 kO (kc6 g1 g2 q1 q2 k1 k3) kc0 ?_;exact Zaf rfl
    ·have k4:(n2.ps.length:Int)<=e.tp:=by omega
     refine kE Tryz.func93 ?_;intro hat B X w0;refine kw1 kO (kc7 g1 g2 q1 q2 k1 k3 k4) kc0 ?_;exact Zaf rfl
  ·rw[if_neg (by omega)];have k1:¬(if e.tp<e.fp then e.tp else e.fp)< -1:=by split<;>omega
   have k3:¬(n1.ps.length:Int)<=e.fp:=by omega
   have k4:¬(n2.ps.length:Int)<=e.tp:=by omega
   by_cases c3:ZcH e.lb=0
   ·rw[if_neg (by omega)];rw[c3]at h1;by_cases hw:e.wt<1\/1000<e.wt\/e.ln<1\/64<e.ln
    ·rw[if_pos hw];refine kE Tryz.func93 ?_;intro hat B X w0;refine kw kO (kc7 g1 g2 q1 q2 k1 k3 k4) (kc1 h1) ?_
     repeat' first|exact True.intro|refine Bn.mk ?_ ?_|intro hc
     all_goals first|exact Zaf rfl|(exfalso;omega)
    ·rw[if_neg hw];have w1:¬e.wt<1:=by omega
     have w2:¬1000<e.wt:=by omega
     have w3:¬e.ln<1:=by omega
     have w4:¬64<e.ln:=by omega
     refine kE Tryz.func93 ?_;intro hat B X w0
     repeat' first|refine ZbH rfl ?_|refine Za0 ?_|refine wR ?_|(refine rc (h1) rfl ?_ ?_;(· first|rfl|simp(disch:=omega) only[go_sem,simprocAttr,g1,g2,q1,q2,k1,k3,k4,w1,w2,w3,w4]))|(refine ZbM rfl rfl (λ hc=>?_) (λ hc=>?_)<;>try simp only[hcL]at hc)|(refine ZbL _ rfl rfl (λ hc=>?_) (λ hc=>?_)<;>(try simp only[hcL]at hc)<;>try omega)|simp(disch:=omega) only[go_sem,simprocAttr,g1,g2,q1,q2,k1,k3,k4,w1,w2,w3,w4]|apply And.intro|omega|decide+kernel
     exact Zaf rfl
   ·rw[if_pos (by omega)];refine kE Tryz.func93 ?_;intro hat B X w0;refine kw1 kO (kc8 g1 g2 q1 q2 k1 k3 k4 c3) (kc1 h1) ?_;exact Zaf rfl
 ·rw[ZfS,if_pos (by omega)];by_cases q1:(if e.to<e.fr then e.to else e.fr)<0
  ·refine kE Tryz.func93 ?_;intro hat B X w0;refine kw1 kO (kc1 q1) kc0 ?_;exact Zaf rfl
  ·have q2:(g.ns.length:Int)<=(if e.fr<e.to then e.to else e.fr):=by split at q1<;>split<;>omega
   refine kE Tryz.func93 ?_;intro hat B X w0;refine kw1 kO (kc2 q1 q2) kc0 ?_;exact Zaf rfl
theorem Zlb (g:Gph)(hm:Mod g):Zaa Tryz.prog 45 [Zbf g] (.int (ZcW g)):=by
 have h1:=Zlr g.nm hm.nm;rw[ZcW];by_cases c0:64<g.ns.length\/256<g.es.length\/16<g.cs.length
 ·rw[if_pos c0];refine kE Tryz.func45 ?_;intro hat B X w0;refine kw kO kc0 kc0 ?_
  repeat' first|exact True.intro|refine Bn.mk ?_ ?_|intro hc
  all_goals first|exact Zaf rfl|(exfalso;omega)
 ·rw[if_neg c0];have a1:¬(64:Int)<g.ns.length:=by omega
  have a2:¬(256:Int)<g.es.length:=by omega
  have a3:¬(16:Int)<g.cs.length:=by omega
  rcases c1:ZcR g.nm with _|_<;>rw[c1]at h1
  ·rw[if_pos rfl];refine kE Tryz.func45 ?_;intro hat B X w0;refine kw1 kO (kc3 a1 a2 a3) (kc1 h1) ?_;exact Zaf rfl
  ·rw[if_neg (by decide)];refine kE Tryz.func45 ?_;intro hat B X w0;refine kw1 kO (kc3 a1 a2 a3) (kc1 h1) ?_;refine Zae (λ(k:Nat)=>k<=g.ns.length/\fe (Zfu g) k=0) (λ k=>[(1, .ptr 1 0 0 0),(32, .int g.ns.length),(33, .int k)]) (λ k=>[(1, .cells [.d (ZaL g.nm), .d (.bool g.dir), .d (.sl (g.ns.map ndD)), .d (.sl (g.es.map edD)), .d (.sl (g.cs.map clD))])]) (λ k=>g.ns.length-k) 0 ?_ ?_ ?_
   ·exact⟨uG _,rfl⟩
   ·exact kN kc0 []
   ·rintro k ⟨hk,hinv⟩;rcases uC k g.ns.length with hlt|hge
    ·have h2:=Zzy g k hm hlt;by_cases hz:Zfu g k=0
     ·rw[hz]at h2;refine kw1 kO kc0 (kc1 h2) ?_;refine⟨k+1,?_,kN kc0 [],?_⟩
      ·exact⟨hlt,Zg1 hinv hz⟩
      ·omega
     ·refine kw1 kO (kc1 hz) (kc1 h2) ?_;exact Zaf (by rw[Zd0 hinv hz _ hlt,if_pos hz])
    ·obtain rfl:k=g.ns.length:=by omega
     rw[if_neg (λ h=>h hinv)];refine kw1 kO kc0 kc0 ?_;refine Zae (λ(k:Nat)=>k<=g.cs.length/\fe (Zeo g) k=0) (λ k=>[(1, .ptr 1 0 0 0),(45, .int g.cs.length),(46, .int k)]) (λ k=>[(1, .cells [.d (ZaL g.nm), .d (.bool g.dir), .d (.sl (g.ns.map ndD)), .d (.sl (g.es.map edD)), .d (.sl (g.cs.map clD))])]) (λ k=>g.cs.length-k) 0 ?_ ?_ ?_
     ·exact⟨uG _,rfl⟩
     ·exact kN kc0 []
     ·rintro k ⟨hk,hinv2⟩;rcases uC k g.cs.length with hlt|hge
      ·have h2:=Zww g k hm hlt hinv2 (by omega);by_cases hz:Zeo g k=0
       ·rw[hz]at h2;refine kw1 kO kc0 (kc1 h2) ?_;refine⟨k+1,?_,kN kc0 [],?_⟩
        ·exact⟨hlt,Zg1 hinv2 hz⟩
        ·omega
       ·refine kw1 kO (kc1 hz) (kc1 h2) ?_;exact Zaf (by rw[Zd0 hinv2 hz _ hlt,if_pos hz])
      ·obtain rfl:k=g.cs.length:=by omega
       rw[if_neg (λ h=>h hinv2)];refine kw1 kO kc0 kc0 ?_;refine Zae (λ(k:Nat)=>k<=g.es.length/\fe (Zfi g) k=0) (λ k=>[(1, .ptr 1 0 0 0),(57, .d (.sl (g.es.map edD))),(58, .int g.es.length),(59, .int k)]) (λ k=>[(1, .cells [.d (ZaL g.nm), .d (.bool g.dir), .d (.sl (g.ns.map ndD)), .d (.sl (g.es.map edD)), .d (.sl (g.cs.map clD))])]) (λ k=>g.es.length-k) 0 ?_ ?_ ?_
       ·exact⟨uG _,rfl⟩
       ·exact kN kc0 []
       ·rintro k ⟨hk,hinv3⟩;rcases uC k g.es.length with hlt|hge
        ·obtain⟨x,hx⟩:=Zac hlt;have h2:=ZwZ g x;have ee:Zfi g k=ZfS g x:=by rw[Zfi,hx]
         rw[<-ee]at h2;by_cases hz:Zfi g k=0
         ·rw[hz]at h2;refine kw1 kO (kc1 hx) (kc1 h2) ?_;refine⟨k+1,?_,kN kc0 [],?_⟩
          ·exact⟨hlt,Zg1 hinv3 hz⟩
          ·omega
         ·refine kw1 kO (kc2 hx hz) (kc1 h2) ?_;exact Zaf (by rw[Zd0 hinv3 hz _ hlt])
        ·refine kw1 kO kc0 kc0 ?_;exact Zaf (by rw[show g.es.length=k by omega,hinv3])
end Go.Proofs.YtjjbhjnpeenbkaaGreatDoor.Gr
