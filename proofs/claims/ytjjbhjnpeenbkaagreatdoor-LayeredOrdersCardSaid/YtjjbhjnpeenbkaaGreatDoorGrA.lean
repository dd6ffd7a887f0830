/- Names and labels: strings as the program and the reference look at them. -/
import Derived.Test.YtjjbhjnpeenbkaaGreatDoorTypes
set_option linter.unusedSimpArgs false
set_option linter.unusedVariables false
set_option maxHeartbeats 16000000
namespace Go.Proofs.YtjjbhjnpeenbkaaGreatDoor.Gr
open Go Go.PS Go.Proofs
set_option maxRecDepth 100000
attribute [local irreducible] ao wpG ah ax
abbrev bi (s:ByteArray):D:= .sc (.string s)
def my (c:Int):Bool:=(decide (97<=c)&&decide (c<=122))||(decide (65<=c)&&decide (c<=90))||decide (c=95)
def ml (c:Int):Bool:=decide (48<=c)&&decide (c<=57)
theorem Nt (c:Int):ah Tryz.prog 199 [.sc (.int .u8 c)] (.bool (my c)):=by
 refine kE Tryz.func199 ?_;intro h B X Y;refine kw kO aa aa ?_
 repeat' first|exact True.intro|refine Bn.mk ?_ ?_|intro Z
 all_goals
  refine ay ?_;rw[qW];simp[my]
  try omega
theorem P7 (c:Int):ah Tryz.prog 225 [.sc (.int .u8 c)] (.bool (my c)):=by
 refine kE Tryz.func225 ?_;intro h B X Y;refine kw kO aa aa ?_
 repeat' first|exact True.intro|refine Bn.mk ?_ ?_|intro Z
 all_goals
  refine ay ?_;rw[qW];simp[my]
  try omega
theorem Ll (c:Int):ah Tryz.prog 200 [.sc (.int .u8 c)] (.bool (ml c)):=by
 refine kE Tryz.func200 ?_;intro h B X Y;refine kw kO aa aa ?_
 repeat' first|exact True.intro|refine Bn.mk ?_ ?_|intro Z
 all_goals
  refine ay ?_;rw[qW];simp[ml]
  try omega
theorem P2 (c:Int):ah Tryz.prog 226 [.sc (.int .u8 c)] (.bool (ml c)):=by
 refine kE Tryz.func226 ?_;intro h B X Y;refine kw kO aa aa ?_
 repeat' first|exact True.intro|refine Bn.mk ?_ ?_|intro Z
 all_goals
  refine ay ?_;rw[qW];simp[ml]
  try omega
def lc (s:ByteArray)(n:Nat):Bool:=decide (n<s.size)&&(my ((dU s).getD n 0)||(decide (0<n)&&ml ((dU s).getD n 0)))
def sH (s:ByteArray):Nat:=((List.range (s.size+1)).findIdx? λ n=> !lc s n).getD 0
theorem I0 {s:ByteArray}{n:Nat}(h:∀j,j<n->lc s j=true)(X:lc s n=false)(V:n<=s.size):sH s=n:=by
 rw[sH,jc (k:=n) (yZ xA) (by rw[X];rfl) (λ j y Y Z=>by
  rw[yZ xA]at Z;cases Z;rw[h j Y];rfl)]
 rfl
theorem T7 (s:ByteArray)(G:s.size<=1000000):ah Tryz.prog 147 [bi s] (.int (sH s)):=by
 have M:=Nt;have L:=Ll;refine kE Tryz.func147 ?_;intro K B X F;refine ac kO aa aa ?_;refine aq (λ(n:Nat)=>n<=s.size/\∀j,j<n->lc s j=true) (λ n=>[(0, .d (bi s)),(3, .int n)]) (λ n=>[]) (λ n=>s.size-n) 0 ?_ ?_ ?_
 ·exact⟨uF _,λ j h=>xA⟩
 ·exact kN aa []
 ·rintro n ⟨H,Y⟩;have R:=λ h=>I0 Y h H
  rcases uD n s.size with T|J
  ·generalize S:(dU s).getD n 0=b;have e:lc s n=(my b||(decide (0<n)&&ml b)):=by rw[lc,S,uZ T,jZ]
   have Z:=M b;have U:=L b;rcases O:my b with _|_<;>rw[O]at Z e
   ·by_cases Q:0<n
    ·have V:(0:Int)<n:=xA;rw[uZ Q]at e;rcases N:ml b with _|_<;>rw[N]at U e
     ·refine ac kO (ai S @V) (ai Z U) ?_;exact ap (by rw[R e])
     ·refine ac kO (ai S @V) (ai Z U) ?_;refine⟨n+1,?_,kN aa [],?_⟩
      ·exact⟨T,λ j I=>by rcases uD j n with h|h;exact Y j h;rw[show j=n by omega];exact e⟩
      ·omega
    ·have V:¬(0:Int)<n:=xA;rw[uW Q]at e;refine ac kO (ai S @V) (ae Z) ?_;exact ap (by rw[R e])
   ·refine ac kO (ae S) (ae Z) ?_;refine⟨n+1,?_,kN aa [],?_⟩
    ·exact⟨T,λ j I=>by rcases uD j n with h|h;exact Y j h;rw[show j=n by omega];exact e⟩
    ·omega
  ·refine ac kO aa aa ?_;exact ap (by rw[R (by simp[lc];omega)])
theorem Qp (s:ByteArray)(G:s.size<=1000000):ah Tryz.prog 184 [bi s] (.int (sH s)):=by
 have M:=P7;have L:=P2;refine kE Tryz.func184 ?_;intro K B X F;refine ac kO aa aa ?_;refine aq (λ(n:Nat)=>n<=s.size/\∀j,j<n->lc s j=true) (λ n=>[(0, .d (bi s)),(3, .int n)]) (λ n=>[]) (λ n=>s.size-n) 0 ?_ ?_ ?_
 ·exact⟨uF _,λ j h=>xA⟩
 ·exact kN aa []
 ·rintro n ⟨H,Y⟩;have R:=λ h=>I0 Y h H
  rcases uD n s.size with T|J
  ·generalize S:(dU s).getD n 0=b;have e:lc s n=(my b||(decide (0<n)&&ml b)):=by rw[lc,S,uZ T,jZ]
   have Z:=M b;have U:=L b;rcases O:my b with _|_<;>rw[O]at Z e
   ·by_cases Q:0<n
    ·have V:(0:Int)<n:=xA;rw[uZ Q]at e;rcases N:ml b with _|_<;>rw[N]at U e
     ·refine ac kO (ai S @V) (ai Z U) ?_;exact ap (by rw[R e])
     ·refine ac kO (ai S @V) (ai Z U) ?_;refine⟨n+1,?_,kN aa [],?_⟩
      ·exact⟨T,λ j I=>by rcases uD j n with h|h;exact Y j h;rw[show j=n by omega];exact e⟩
      ·omega
    ·have V:¬(0:Int)<n:=xA;rw[uW Q]at e;refine ac kO (ai S @V) (ae Z) ?_;exact ap (by rw[R e])
   ·refine ac kO (ae S) (ae Z) ?_;refine⟨n+1,?_,kN aa [],?_⟩
    ·exact⟨T,λ j I=>by rcases uD j n with h|h;exact Y j h;rw[show j=n by omega];exact e⟩
    ·omega
  ·refine ac kO aa aa ?_;exact ap (by rw[R (by simp[lc];omega)])
def rF (s:ByteArray):Bool:=decide (s=⟨#[100,105,103,114,97,112,104]⟩)||decide (s=⟨#[103,114,97,112,104]⟩)||decide (s=⟨#[110,111,100,101]⟩)||decide (s=⟨#[101,100,103,101]⟩)||decide (s=⟨#[115,101,116]⟩)||decide (s=⟨#[99,108,117,115,116,101,114]⟩)
theorem MW (s:ByteArray):ah Tryz.prog 148 [bi s] (.bool (rF s)):=by
 refine kE Tryz.func148 ?_;intro Z B X Y
 repeat' first|refine bt rfl ?_|refine aV ?_|refine wR ?_|(refine bB rfl rfl (λ h=>?_) (λ h=>?_)<;>try simp only[hcL]at h)|(refine bA _ rfl rfl (λ h=>?_) (λ h=>?_)<;>(try simp only[hcL]at h)<;>try omega)|simp(disch:=omega) only[go_sem,simprocAttr]|apply And.intro|omega|decide+kernel
 all_goals
  refine ay ?_
  simp_all [rF]
theorem P3 (s:ByteArray):ah Tryz.prog 185 [bi s] (.bool (rF s)):=by
 refine kE Tryz.func185 ?_;intro Z B X Y
 repeat' first|refine bt rfl ?_|refine aV ?_|refine wR ?_|(refine bB rfl rfl (λ h=>?_) (λ h=>?_)<;>try simp only[hcL]at h)|(refine bA _ rfl rfl (λ h=>?_) (λ h=>?_)<;>(try simp only[hcL]at h)<;>try omega)|simp(disch:=omega) only[go_sem,simprocAttr]|apply And.intro|omega|decide+kernel
 all_goals
  refine ay ?_
  simp_all [rF]
def e8 (s:ByteArray):Bool:=decide (s≠⟨#[]⟩)&&decide (s.size<=16)&&decide (sH s=s.size)&& !rF s
theorem tN (s:ByteArray)(V:s.size<=1000000):ah Tryz.prog 90 [bi s] (.bool (e8 s)):=by
 have h:=T7 s V;have Z:=MW s;refine kE Tryz.func90 ?_;intro Y B X T;refine kw kO aa (ai h Z) ?_
 repeat' first|exact True.intro|refine Bn.mk ?_ ?_|intro U
 all_goals
  refine ay ?_;rw[qW];simp[e8]
  first|done|omega|(intro _;exact⟨⟨by assumption,xA⟩,xA⟩)|(intros;contradiction)
theorem uc (s:ByteArray)(V:s.size<=1000000):ah Tryz.prog 129 [bi s] (.bool (e8 s)):=by
 have h:=Qp s V;have Z:=P3 s;refine kE Tryz.func129 ?_;intro Y B X T;refine kw kO aa (ai h Z) ?_
 repeat' first|exact True.intro|refine Bn.mk ?_ ?_|intro U
 all_goals
  refine ay ?_;rw[qW];simp[e8]
  first|done|omega|(intro _;exact⟨⟨by assumption,xA⟩,xA⟩)|(intros;contradiction)
structure Pt where
 nm:ByteArray
 sd:Int
structure Nd where
 nm:ByteArray
 lb:ByteArray
 w:Int
 h:Int
 cl:Int
 ps:List Pt
structure Ed where
 fr:Int
 to:Int
 fp:Int
 tp:Int
 lb:ByteArray
 wt:Int
 ln:Int
structure Cl where
 nm:ByteArray
 pa:Int
structure Gph where
 nm:ByteArray
 dir:Bool
 ns:List Nd
 es:List Ed
 cs:List Cl
abbrev ptD (p:Pt):D:= .ag [bi p.nm, .int p.sd]
abbrev ndD (n:Nd):D:= .ag [bi n.nm,bi n.lb, .int n.w, .int n.h, .int n.cl, .sl (n.ps.map ptD)]
abbrev edD (e:Ed):D:= .ag [.int e.fr, .int e.to, .int e.fp, .int e.tp,bi e.lb, .int e.wt, .int e.ln]
abbrev clD (c:Cl):D:= .ag [bi c.nm, .int c.pa]
abbrev a7 (g:Gph):D:= .ag [bi g.nm, .bool g.dir, .sl (g.ns.map ndD), .sl (g.es.map edD), .sl (g.cs.map clD)]
def fe (f:Nat->Int):Nat->Int
 |0=>0
 |k+1=>if fe f k=0 then f k else fe f k
theorem m9 {f:Nat->Int}{k:Nat}(h:fe f k=0)(Z:f k=0):fe f (k+1)=0:=by rw[fe,if_pos h,Z]
theorem ir {f:Nat->Int}{k:Nat}(h:fe f k=0)(Y:f k≠0):∀n,k<n->fe f n=f k:=by
 intro n
 induction n with
 |zero=>intro X;omega
 |succ n V=>
  intro X;rw[fe];rcases uD k n with Z|Z
  ·rw[V Z,if_neg Y]
  ·rw[show n=k by omega,if_pos h]
theorem wi {f:Nat->Int}:∀{n:Nat},fe f n=0->∀k,k<n->f k=0:=by
 intro n
 induction n with
 |zero=>intro _ k X;omega
 |succ n V=>
  intro h k X;rw[fe]at h;by_cases Z:fe f n=0
  ·rw[if_pos Z]at h;rcases uD k n with Y|Y
   ·exact V Z k Y
   ·rw[show k=n by omega];exact h
  ·rw[if_neg Z]at h;exact absurd h Z
theorem MB (l:List Nd)(g:Nat)(caps:List D)(p:Nd->Bool)(N:∀x,ah Tryz.prog g (ndD x::caps) (.bool (p x))):ah Tryz.prog 201 [.sl (l.map ndD), .fn g caps] (.int (eh (l.findIdx? p))):=by
 refine kE Tryz.func201 ?_;intro U B X L;have O:=bI 0 U rfl;rw[uC]at O;refine ac kO aa aa ?_;refine aq (λ(k:Nat)=>k<=l.length/\∀(j:Nat) y,j<k->l[j]? =some y->p y=false) (λ k=>[(0, .d (.sl (l.map ndD))),(1, .d (.fn g caps)),(7, .int l.length),(8, .int k)]) (λ k=>[]) (λ k=>l.length-k) 0 ?_ ?_ ?_
 ·exact⟨uF _,λ j y h=>xA⟩
 ·exact kN aa []
 ·rintro k ⟨M,Z⟩;rcases uD k l.length with S|Q
  ·obtain⟨x,V⟩:=ak S;have Y:=N x;rcases T:p x with _|_<;>rw[T]at Y
   ·refine ac kO (ae V) (ae (kcc [ndD x] caps Y)) ?_;refine⟨k+1,?_,kN aa [],?_⟩
    ·exact⟨xA,b9 Z V T⟩
    ·omega
   ·refine ac kO (ae V) (ae (kcc [ndD x] caps Y)) ?_;refine ap ?_;rw[jc V T Z];rfl
  ·refine ac kO aa aa ?_;refine ap ?_;rw[ka (λ j y R=>Z j y (by have:=(uB.1 R).1;omega) R)];rfl
theorem ME (l:List Pt)(g:Nat)(caps:List D)(p:Pt->Bool)(N:∀x,ah Tryz.prog g (ptD x::caps) (.bool (p x))):ah Tryz.prog 235 [.sl (l.map ptD), .fn g caps] (.int (eh (l.findIdx? p))):=by
 refine kE Tryz.func235 ?_;intro U B X L;have O:=bI 0 U rfl;rw[uC]at O;refine ac kO aa aa ?_;refine aq (λ(k:Nat)=>k<=l.length/\∀(j:Nat) y,j<k->l[j]? =some y->p y=false) (λ k=>[(0, .d (.sl (l.map ptD))),(1, .d (.fn g caps)),(7, .int l.length),(8, .int k)]) (λ k=>[]) (λ k=>l.length-k) 0 ?_ ?_ ?_
 ·exact⟨uF _,λ j y h=>xA⟩
 ·exact kN aa []
 ·rintro k ⟨M,Z⟩;rcases uD k l.length with S|Q
  ·obtain⟨x,V⟩:=ak S;have Y:=N x;rcases T:p x with _|_<;>rw[T]at Y
   ·refine ac kO (ae V) (ae (kcc [ptD x] caps Y)) ?_;refine⟨k+1,?_,kN aa [],?_⟩
    ·exact⟨xA,b9 Z V T⟩
    ·omega
   ·refine ac kO (ae V) (ae (kcc [ptD x] caps Y)) ?_;refine ap ?_;rw[jc V T Z];rfl
  ·refine ac kO aa aa ?_;refine ap ?_;rw[ka (λ j y R=>Z j y (by have:=(uB.1 R).1;omega) R)];rfl
theorem My (l:List Cl)(g:Nat)(caps:List D)(p:Cl->Bool)(N:∀x,ah Tryz.prog g (clD x::caps) (.bool (p x))):ah Tryz.prog 205 [.sl (l.map clD), .fn g caps] (.int (eh (l.findIdx? p))):=by
 refine kE Tryz.func205 ?_;intro U B X L;have O:=bI 0 U rfl;rw[uC]at O;refine ac kO aa aa ?_;refine aq (λ(k:Nat)=>k<=l.length/\∀(j:Nat) y,j<k->l[j]? =some y->p y=false) (λ k=>[(0, .d (.sl (l.map clD))),(1, .d (.fn g caps)),(7, .int l.length),(8, .int k)]) (λ k=>[]) (λ k=>l.length-k) 0 ?_ ?_ ?_
 ·exact⟨uF _,λ j y h=>xA⟩
 ·exact kN aa []
 ·rintro k ⟨M,Z⟩;rcases uD k l.length with S|Q
  ·obtain⟨x,V⟩:=ak S;have Y:=N x;rcases T:p x with _|_<;>rw[T]at Y
   ·refine ac kO (ae V) (ae (kcc [clD x] caps Y)) ?_;refine⟨k+1,?_,kN aa [],?_⟩
    ·exact⟨xA,b9 Z V T⟩
    ·omega
   ·refine ac kO (ae V) (ae (kcc [clD x] caps Y)) ?_;refine ap ?_;rw[jc V T Z];rfl
  ·refine ac kO aa aa ?_;refine ap ?_;rw[ka (λ j y R=>Z j y (by have:=(uB.1 R).1;omega) R)];rfl
theorem K4 (l:List Pt)(g:Nat)(caps:List D)(p:Pt->Bool)(Y:∀x,ah Tryz.prog g (ptD x::caps) (.bool (p x))):ah Tryz.prog 203 [.sl (l.map ptD), .fn g caps] (.bool (l.any p)):=by
 have h:=ME l g caps p Y;refine kE Tryz.func203 ?_;intro Z B X V;refine ac kO aa (ae h) ?_;exact ay (oB p l)
theorem K2 (l:List Cl)(g:Nat)(caps:List D)(p:Cl->Bool)(Y:∀x,ah Tryz.prog g (clD x::caps) (.bool (p x))):ah Tryz.prog 153 [.sl (l.map clD), .fn g caps] (.bool (l.any p)):=by
 have h:=My l g caps p Y;refine kE Tryz.func153 ?_;intro Z B X V;refine ac kO aa (ae h) ?_;exact ay (oB p l)
theorem LQ (n:Nd)(s:ByteArray):ah Tryz.prog 202 [ndD n, .pt [bi s]] (.bool (decide (n.nm=s))):=by
 refine kE Tryz.func202 ?_;intro h B X Z;refine ac kO aa aa ?_;exact ay rfl
theorem KV (c:Cl)(s:ByteArray)(k:Int):ah Tryz.prog 154 [clD c, .pt [bi s, .int k]] (.bool (decide (c.nm=s))):=by
 refine kE Tryz.func154 ?_;intro h B X Z;refine ac kO aa aa ?_;exact ay rfl
theorem Pw (c:Pt)(s:ByteArray)(k:Int):ah Tryz.prog 204 [ptD c, .pt [bi s, .int k]] (.bool (decide (c.nm=s))):=by
 refine kE Tryz.func204 ?_;intro h B X Z;refine ac kO aa aa ?_;exact ay rfl
def eZ (g:Gph)(s:ByteArray):Int:=eh (g.ns.findIdx? λ n=>decide (n.nm=s))
theorem rr (g:Gph)(s:ByteArray):ah Tryz.prog 149 [a7 g,bi s] (.int (eZ g s)):=by
 have h:=MB g.ns 202 [.pt [bi s]] (λ n=>decide (n.nm=s)) (λ x=>LQ x s);refine kE Tryz.func149 ?_;intro Z B X Y;refine ac kO aa (ae h) ?_;exact ap rfl
def cW (c:Int):Bool:=decide (c<32)||decide (126<c)
def eN (s:ByteArray):Int:=if 32<s.size then 2 else if(dU s).any cW then 7 else 0
theorem CV {s:ByteArray}{k:Nat}(h:k<s.size):(dU s)[k]? =some ((dU s).getD k 0):=by
 have:=ky s;rw[jI,uT xA];rfl
theorem E0 (s:ByteArray):ah Tryz.prog 150 [bi s] (.int (eN s)):=by
 have O:=ky s;have Z:(fQ s).length=s.size:=by rw[fQ,uC,O]
 rw[eN];by_cases U:32<s.size
 ·rw[if_pos U];refine kE Tryz.func150 ?_;intro Q B X L;refine ac kO aa aa ?_;exact ap rfl
 ·rw[if_neg U];refine kE Tryz.func150 ?_;intro Q B X L;refine ac kO (ae Z) aa ?_;refine aq (λ(k:Nat)=>k<=s.size/\∀(j:Nat) y,j<k->(dU s)[j]? =some y->cW y=false) (λ k=>[(9, .d (.sl (fQ s))),(10, .int s.size),(11, .int k)]) (λ k=>[]) (λ k=>s.size-k) 0 ?_ ?_ ?_
  ·exact⟨uF _,λ j y h=>xA⟩
  ·exact kN aa []
  ·rintro k ⟨J,Y⟩;rcases uD k s.size with T|M
   ·have S:=CV T;generalize(dU s).getD k 0=c at S;have N:(fQ s)[k]? =some (.sc (.int .u8 c)):=by rw[fQ,uJ,S];rfl
    by_cases V:c<32
    ·refine ac kO (av N Z V) aa ?_;refine ap ?_;rw[if_pos (dk (q:=cW) S (by rw[cW,uZ V];rfl))]
    ·by_cases R:126<c
     ·refine ac kO (aE N Z V R) aa ?_;refine ap ?_;rw[if_pos (dk (q:=cW) S (by rw[cW,uZ R,Bm]))]
     ·refine ac kO (aE N Z V R) aa ?_;refine⟨k+1,?_,kN aa [],?_⟩
      ·exact⟨T,b9 Y S (by rw[cW,uW V,uW R];rfl)⟩
      ·omega
   ·refine ac kO aa aa ?_;refine ap ?_;rw[if_neg (by rw[d6 (q:=cW) (λ j y K=>Y j y xA)];decide)]
theorem GO (s:ByteArray)(L:s.size<=1000000):ah Tryz.prog 187 [bi s] (.bool (!(dU s).any cW)):=by
 have Q:=ky s;refine kE Tryz.func187 ?_;intro R B X K;refine ac kO aa aa ?_;refine aq (λ(k:Nat)=>k<=s.size/\∀(j:Nat) y,j<k->(dU s)[j]? =some y->cW y=false) (λ k=>[(0, .d (bi s)),(3, .int k)]) (λ k=>[]) (λ k=>s.size-k) 0 ?_ ?_ ?_
 ·exact⟨uF _,λ j y h=>xA⟩
 ·exact kN aa []
 ·rintro k ⟨M,Z⟩;rcases uD k s.size with V|O
  ·have T:=CV V;generalize S:(dU s).getD k 0=c at T;by_cases Y:c<32
   ·refine ac kO (ai S Y) aa ?_;refine ay ?_;rw[dk (q:=cW) T (by rw[cW,uZ Y];rfl)];rfl
   ·by_cases U:126<c
    ·refine ac kO (av S Y U) aa ?_;refine ay ?_;rw[dk (q:=cW) T (by rw[cW,uZ U,Bm])];rfl
    ·refine ac kO (av S Y U) aa ?_;refine⟨k+1,?_,kN aa [],?_⟩
     ·exact⟨V,b9 Z T (by rw[cW,uW Y,uW U];rfl)⟩
     ·omega
  ·refine ac kO aa aa ?_;refine ay ?_;rw[d6 (q:=cW) (λ j y N=>Z j y xA)];rfl
def ic (n:Int):Bool:=decide (1<=n)&&decide (n<=1048576)
theorem ss (n:Int):ah Tryz.prog 151 [.int n] (.bool (ic n)):=by
 refine kE Tryz.func151 ?_;intro h B X Y;refine kw kO aa aa ?_
 repeat' first|exact True.intro|refine Bn.mk ?_ ?_|intro Z
 all_goals
  refine ay ?_;rw[qW];simp[ic]
  try omega
def pY (l:List Pt)(i:Nat):Int:=match l[i]? with
 |none=>0
 |some p=>if e8 p.nm=false then 5 else if(l.take i).any (λ q=>decide (q.nm=p.nm))then 6 else if p.sd<0\/3<p.sd then 7 else 0
def se (l:List Pt):Int:=if 8<l.length then 2 else fe (pY l) l.length
theorem Gu {l:List Pt}{i:Nat}{p:Pt}(h:l[i]? =some p):pY l i=if e8 p.nm=false then 5 else if(l.take i).any (λ q=>decide (q.nm=p.nm))then 6 else if p.sd<0\/3<p.sd then 7 else 0:=by rw[pY,h]
theorem Px (l:List Pt)(J:∀p∈l,p.nm.size<=1000000):ah Tryz.prog 152 [.sl (l.map ptD)] (.int (se l)):=by
 rw[se];by_cases N:8<l.length
 ·rw[if_pos N];refine kE Tryz.func152 ?_;intro Q B X I;refine ac kO aa aa ?_;exact ap rfl
 ·rw[if_neg N];refine kE Tryz.func152 ?_;intro Q B X I;refine ac kO aa aa ?_;refine aq (λ(k:Nat)=>k<=l.length/\fe (pY l) k=0) (λ k=>[(0, .d (.sl (l.map ptD))),(8, .d (.sl (l.map ptD))),(9, .int l.length),(10, .int k)]) (λ k=>[]) (λ k=>l.length-k) 0 ?_ ?_ ?_
  ·exact⟨uF _,rfl⟩
  ·exact kN aa []
  ·rintro k ⟨H,h⟩;rcases uD k l.length with Z|K
   ·obtain⟨p,Y⟩:=ak Z;have e:=Gu Y;have V:=tN p.nm (J p (uA Y));have U:=K4 (l.take k) 204 [.pt [bi p.nm, .int p.sd]] (λ q=>decide (q.nm=p.nm)) (λ x=>Pw x p.nm p.sd);have T:(l.take k).map ptD=(l.map ptD).take k:=Ai;rw[T]at U;rcases M:e8 p.nm with _|_<;>rw[M]at V e
    ·rw[if_pos rfl]at e;refine ac kO (ae Y) (ae V) ?_;exact ap (by rw[ir h (by rw[e];decide) _ Z,e])
    ·rw[if_neg xC]at e;rcases L:(l.take k).any (λ q=>decide (q.nm=p.nm))with _|_<;>rw[L]at U e
     ·rw[if_neg xC]at e;by_cases S:p.sd<0
      ·rw[if_pos (.inl S)]at e;refine kw kO (ai Y S) (ai V U) ?_
       repeat' first|exact True.intro|refine Bn.mk ?_ ?_|intro O
       exact ap (by rw[ir h (by rw[e];decide) _ Z,e])
      ·by_cases R:3<p.sd
       ·rw[if_pos (.inr R)]at e;refine kw kO (av Y S R) (ai V U) ?_
        repeat' first|exact True.intro|refine Bn.mk ?_ ?_|intro O
        exact ap (by rw[ir h (by rw[e];decide) _ Z,e])
       ·rw[if_neg xA]at e;refine kw kO (av Y S R) (ai V U) ?_
        repeat' first|exact True.intro|refine Bn.mk ?_ ?_|intro O
        refine⟨k+1,?_,eL [] _ _ (by refine⟨?_,?_⟩<;>(repeat' first|exact fmn|refine fmc ⟨(by first|rfl|(simp(disch:=omega) only[go_sem,simprocAttr,inL];first|done|omega|(congr 1;done))),?_⟩);done),?_⟩
        ·exact⟨Z,m9 h e⟩
        ·omega
     ·rw[if_pos rfl]at e;refine kw kO (ae Y) (ai V U) ?_
      repeat' first|exact True.intro|refine Bn.mk ?_ ?_|intro O
      exact ap (by rw[ir h (by rw[e];decide) _ Z,e])
   ·refine ac kO aa aa ?_;exact ap (by rw[show l.length=k by omega,h])
theorem Qe (l:List Pt)(F:∀p∈l,p.nm.size<=1000000):ah Tryz.prog 188 [.sl (l.map ptD)] (.int (fe (pY l) l.length)):=by
 refine kE Tryz.func188 ?_;intro L B X A;have G:=bI 0 L rfl;rw[uC]at G;refine ac kO aa aa ?_;refine aq (λ(k:Nat)=>k<=l.length/\fe (pY l) k=0) (λ k=>[(0, .d (.sl (l.map ptD))),(3, .int k)]) (λ k=>[]) (λ k=>l.length-k) 0 ?_ ?_ ?_
 ·exact⟨uF _,rfl⟩
 ·exact kN aa []
 ·rintro k ⟨C,Z⟩;rcases uD k l.length with Y|I
  ·obtain⟨p,U⟩:=ak Y;have e:=Gu U;have M:=uc p.nm (F p (uA U));rcases J:e8 p.nm with _|_<;>rw[J]at M e
   ·rw[if_pos rfl]at e;refine ac kO (ae U) (ae M) ?_;exact ap (by rw[ir Z (by rw[e];decide) _ Y,e])
   ·rw[if_neg xC]at e;refine ac kO (ae U) (ae M) ?_;refine aq (λ(j:Nat)=>j<=k/\∀(i:Nat) y,i<j->l[i]? =some y->decide (y.nm=p.nm)=false) (λ j=>[(0, .d (.sl (l.map ptD))),(3, .int k),(4, .int j)]) (λ j=>[]) (λ j=>k-j) 0 ?_ ?_ ?_
    ·exact⟨uF _,λ j y h=>xA⟩
    ·exact kN aa []
    ·rintro j ⟨E,S⟩;rcases uD j k with T|T
     ·obtain⟨q,O⟩:=ak (l:=l) (k:=j) xA;by_cases Q:q.nm=p.nm
      ·have V:(l.take k).any (λ q=>decide (q.nm=p.nm))=true:=dk (k:=j) (by rw[jN T];exact O) (uZ Q);rw[V,if_pos rfl]at e;refine ac kO (av U O Q) aa ?_;exact ap (by rw[ir Z (by rw[e];decide) _ Y,e])
      ·refine ac kO (av U O Q) aa ?_;refine⟨j+1,?_,kN aa [],?_⟩
       ·exact⟨T,b9 S O (uW Q)⟩
       ·omega
     ·have V:(l.take k).any (λ q=>decide (q.nm=p.nm))=false:=d6 (λ i y H K=>by
       rw[yA]at H;rw[jN xA]at K;exact S i y xA K)
      rw[V,if_neg xC]at e;by_cases R:p.sd<0
      ·rw[if_pos (.inl R)]at e;refine ac kO (ai U R) aa ?_;exact ap (by rw[ir Z (by rw[e];decide) _ Y,e])
      ·by_cases N:3<p.sd
       ·rw[if_pos (.inr N)]at e;refine ac kO (av U R N) aa ?_;exact ap (by rw[ir Z (by rw[e];decide) _ Y,e])
       ·rw[if_neg xA]at e;refine ac kO (av U R N) aa ?_;refine⟨k+1,?_,kN aa [],?_⟩
        ·exact⟨Y,m9 Z e⟩
        ·omega
  ·refine ac kO aa aa ?_;exact ap (by rw[show l.length=k by omega,Z])
structure Mod (g:Gph):Prop where
 nm:g.nm.size<=1000000
 ns:∀n∈g.ns,n.nm.size<=1000000/\n.lb.size<=1000000/\∀p∈n.ps,p.nm.size<=1000000
 es:∀e∈g.es,e.lb.size<=1000000
 cs:∀c∈g.cs,c.nm.size<=1000000
def lq (g:Gph)(i:Nat):Int:=match g.ns[i]? with
 |none=>0
 |some n=>if e8 n.nm=false then 5 else if eZ g n.nm<i then 6 else if eN n.lb≠0 then eN n.lb
  else if ic n.w=false\/ic n.h=false\/n.cl< -1\/(g.cs.length:Int)<=n.cl then 3 else se n.ps
def mj (cs:List Cl):Nat->Int->List Int
 |0,_=>[]
 |f+1,c=>if c<0 then[]else c::mj cs f (match cs[c.toNat]? with|some x=>x.pa|none=>-1)
def eW (cs:List Cl)(c:Int):List Int:=mj cs (c+1).toNat c
def i7 (g:Gph)(i:Nat):Int:=match g.cs[i]? with
 |none=>0
 |some c=>if e8 c.nm=false then 5 else if 0<=eZ g c.nm\/(g.cs.take i).any (λ x=>decide (x.nm=c.nm))=true then 6 else if c.pa< -1\/(i:Int)<=c.pa then 3 else if 6<(eW g.cs i).length then 2 else 0
def tZ (g:Gph)(v:Int):Nat:=match g.ns[v.toNat]? with|some n=>n.ps.length|none=>0
def lK (g:Gph)(e:Ed):Int:=
 if e.fr<0\/e.to<0\/(g.ns.length:Int)<=e.fr\/(g.ns.length:Int)<=e.to\/e.fp< -1\/e.tp< -1\/(tZ g e.fr:Int)<=e.fp\/(tZ g e.to:Int)<=e.tp then 3
 else if eN e.lb≠0 then eN e.lb else if e.wt<1\/1000<e.wt\/e.ln<1\/64<e.ln then 7 else 0
def k5 (g:Gph)(i:Nat):Int:=match g.es[i]? with|none=>0|some e=>lK g e
def ee (g:Gph):Int:=if 64<g.ns.length\/256<g.es.length\/16<g.cs.length then 2 else if e8 g.nm=false then 5
 else if fe (lq g) g.ns.length≠0 then fe (lq g) g.ns.length else if fe (i7 g) g.cs.length≠0 then fe (i7 g) g.cs.length else fe (k5 g) g.es.length
theorem xr {g:Gph}{i:Nat}{n:Nd}(h:g.ns[i]? =some n):lq g i=if e8 n.nm=false then 5 else if eZ g n.nm<i then 6 else if eN n.lb≠0 then eN n.lb
  else if ic n.w=false\/ic n.h=false\/n.cl< -1\/(g.cs.length:Int)<=n.cl then 3 else se n.ps:=by rw[lq,h]
theorem vO {g:Gph}{i:Nat}{c:Cl}(h:g.cs[i]? =some c):i7 g i=if e8 c.nm=false then 5 else if 0<=eZ g c.nm\/(g.cs.take i).any (λ x=>decide (x.nm=c.nm))=true then 6 else if c.pa< -1\/(i:Int)<=c.pa then 3 else if 6<(eW g.cs i).length then 2 else 0:=by rw[i7,h]
theorem LU {g:Gph}{i:Nat}{n:Nd}(h:g.ns[i]? =some n):0<=eZ g n.nm/\eZ g n.nm<=i:=by
 rw[eZ];cases Z:g.ns.findIdx? (λ m=>decide (m.nm=n.nm))with
 |none=>
  rw[Bt]at Z;have:=Z n (uA h);simp at this
 |some j=>
  obtain⟨T,S,X⟩:=jY.1 Z;simp only[eh];refine⟨xA,?_⟩;rcases uD i j with Y|U
  ·have:=X i Y;obtain⟨R,V⟩:=uB.1 h;rw[V]at this;simp at this
  ·omega
theorem Og (g:Gph)(i:Nat)(F:Mod g)(G:i<g.ns.length):ah Tryz.prog 91 [a7 g, .int i] (.int (lq g i)):=by
 obtain⟨n,Y⟩:=ak G;obtain⟨E,A,C⟩:=F.ns n (uA Y);have e:=xr Y;have U:=tN n.nm E;have T:=rr g n.nm;have S:=E0 n.lb;have Q:=ss n.w;have O:=ss n.h;have H:=Px n.ps C;rw[e];rcases K:e8 n.nm with _|_<;>rw[K]at U
 ·rw[if_pos rfl];refine kE Tryz.func91 ?_;intro Z B X R;refine ac kO (ae Y) (ae U) ?_;exact ap rfl
 ·rw[if_neg xC];by_cases V:eZ g n.nm<i
  ·rw[if_pos V];refine kE Tryz.func91 ?_;intro Z B X R;refine ac kO (ai Y V) (ai U T) ?_;exact ap rfl
  ·rw[if_neg V];by_cases L:eN n.lb=0
   ·rw[if_neg xA];rw[L]at S;rcases J:ic n.w with _|_<;>rw[J]at Q
    ·rw[if_pos (.inl rfl)];refine kE Tryz.func91 ?_;intro Z B X R;refine ac kO (ai Y V) (aE U T S Q) ?_;exact ap rfl
    ·rcases I:ic n.h with _|_<;>rw[I]at O
     ·rw[if_pos (.inr (.inl rfl))];refine kE Tryz.func91 ?_;intro Z B X R;refine ac kO (ai Y V) (aQ U T S Q O) ?_;exact ap rfl
     ·by_cases N:n.cl< -1
      ·rw[if_pos (.inr (.inr (.inl N)))];refine kE Tryz.func91 ?_;intro Z B X R;refine ac kO (av Y V N) (aQ U T S Q O) ?_;exact ap rfl
      ·by_cases M:(g.cs.length:Int)<=n.cl
       ·rw[if_pos (.inr (.inr (.inr M)))];refine kE Tryz.func91 ?_;intro Z B X R;refine ac kO (aE Y V N M) (aQ U T S Q O) ?_;exact ap rfl
       ·rw[if_neg (by simp;omega)];refine kE Tryz.func91 ?_;intro Z B X R;refine ac kO (aE Y V N M) (bq U T S Q O H) ?_;exact ap rfl
   ·rw[if_pos xA];refine kE Tryz.func91 ?_;intro Z B X R;refine ac kO (av Y V L) (av U T S) ?_;exact ap rfl
def oZ (cs:List Cl)(Z:Int):Prop:=∀(j:Nat) x,cs[j]? =some x->(j:Int)<=Z->-1<=x.pa/\x.pa<j
theorem KQ {cs:List Cl}{Y:Int}(h:oZ cs Y):∀(f:Nat) (c:Int),c<=Y->(c+1).toNat<=f->mj cs f c=eW cs c:=by
 intro f
 induction f using Nat.strongRecOn with
 |_ f Z=>
  intro c T O;by_cases X:c<0
  ·rw[eW,show(c+1).toNat=0 by omega,mj];cases f with
   |zero=>rfl
   |succ f=>rw[mj,if_pos X]
  ·obtain⟨k,rfl⟩:∃k:Nat,c=k:=⟨c.toNat,xA⟩;cases f with
   |zero=>omega
   |succ f=>
    rw[eW,show((k:Int)+1).toNat=k+1 by omega,mj,mj,if_neg xA,if_neg xA,uK]
    congr 1
    cases S:cs[k]? with
    |none=>
     dsimp only;rw[Z f xA (-1) xA xA];rcases uD k (f+1)with V|V
     ·rcases uD k f with U|U
      ·rw[Z k xA (-1) xA xA]
      ·rw[Z k xA (-1) xA xA]
     ·omega
    |some x=>
     dsimp only;obtain⟨R,Q⟩:=h k x S T;rw[Z f xA x.pa xA xA,Z k xA x.pa xA xA]
theorem C2 (cs:List Cl){c:Int}(h:c<0):eW cs c=[]:=by
 rw[eW,show(c+1).toNat=0 by omega,mj]
theorem C3 {cs:List Cl}{Z:Int}(h:oZ cs Z){k:Nat}{x:Cl}(Y:cs[k]? =some x)(X:(k:Int)<=Z):eW cs k=(k:Int)::eW cs x.pa:=by
 obtain⟨V,U⟩:=h k x Y X;rw[eW,show((k:Int)+1).toNat=k+1 by omega,mj,if_neg xA,uK,Y];dsimp only;rw[KQ h k x.pa xA xA]
theorem JS (g:Gph)(i:Nat)(L:i<g.cs.length)(U:oZ g.cs i)(M:i<=1000):ah Tryz.prog 206 [a7 g, .int i] (.sl ((eW g.cs i).map D.int)):=by
 refine kE Tryz.func206 ?_;intro T B X K;refine ac kO aa aa ?_;refine aC _ (dg 5 901 1 rfl rfl) ?_;refine aq (λ(q:List Int×Int)=>match q with|(l,c)=>l++eW g.cs c=eW g.cs i/\-1<=c/\c<=i/\(l.length:Int)+c<=i) (λ(l,c)=>[(1, .int c),(2, .ptr 2 0 0 0),(5, .ref 901 1 0 l.length l.length)]) (λ(l,c)=>[(2, .cells [.d (bi g.nm), .d (.bool g.dir), .d (.sl (g.ns.map ndD)), .d (.sl (g.es.map edD)), .d (.sl (g.cs.map clD))]),(901, .row 1 (l.map D.int))]) (λ(l,c)=>(c+1).toNat) ([],(i:Int)) ?_ ?_ ?_
 ·exact⟨rfl,xA,xA,xB⟩
 ·exact kN aa []
 ·rintro⟨l,c⟩ ⟨Z,R,Y,Q⟩;dsimp only at Z R Y Q|-;by_cases V:c<0
  ·refine ac kO (ae V) aa ?_;rw[C2 _ V,yS]at Z;exact bZ (o:=901) rfl rfl xB (by rw[uE xB,Z])
  ·obtain⟨k,rfl⟩:∃k:Nat,c=k:=⟨c.toNat,xA⟩;obtain⟨x,h⟩:=ak (l:=g.cs) (k:=k) xA;obtain⟨O,N⟩:=U k x h Y;have S:=C3 U h Y;refine ac kO (ai h @aA) aa ?_;refine⟨(l++[(k:Int)],x.pa),?_,kN (aQ @uH.{0} @yO.{0} @uO.{0,0} @uS.{0,0} @uY.{0,0}) [(901,11)],?_⟩
   ·refine⟨?_,xA,xA,?_⟩
    ·rw[<-Z,S,qG];rfl
    ·rw[uH,yO];omega
   ·dsimp only;omega
theorem Lk (g:Gph)(i:Nat)(U:i<g.cs.length)(V:oZ g.cs i)(Z:i<=1000):ah Tryz.prog 155 [a7 g, .int i] (.int (eW g.cs i).length):=by
 have h:=JS g i U V Z;refine kE Tryz.func155 ?_;intro Y B X S;refine kw kO aa (ae h) ?_
 repeat' first|exact True.intro|refine Bn.mk ?_ ?_|intro T
 exact ap rfl
theorem P1 (g:Gph)(i:Nat)(L:i<g.cs.length)(U:oZ g.cs i)(M:i<=1000):ah Tryz.prog 189 [a7 g, .int i] (.int (eW g.cs i).length):=by
 refine kE Tryz.func189 ?_;intro T B X K;refine ac kO aa aa ?_;refine aq (λ(q:Nat×Int)=>match q with|(m,c)=>m+(eW g.cs c).length=(eW g.cs i).length/\-1<=c/\c<=i/\(m:Int)+c<=i) (λ(m,c)=>[(1, .int c),(2, .ptr 2 0 0 0),(5, .int m)]) (λ(m,c)=>[(2, .cells [.d (bi g.nm), .d (.bool g.dir), .d (.sl (g.ns.map ndD)), .d (.sl (g.es.map edD)), .d (.sl (g.cs.map clD))])]) (λ(m,c)=>(c+1).toNat) (0,(i:Int)) ?_ ?_ ?_
 ·exact⟨xA,xA,xA,xA⟩
 ·exact kN aa []
 ·rintro⟨m,c⟩ ⟨Z,R,Y,Q⟩;dsimp only at Z R Y Q|-;by_cases V:c<0
  ·refine ac kO (ae V) aa ?_;rw[C2 _ V]at Z;exact ap (by rw[<-Z];rfl)
  ·obtain⟨k,rfl⟩:∃k:Nat,c=k:=⟨c.toNat,xA⟩;obtain⟨x,h⟩:=ak (l:=g.cs) (k:=k) xA;obtain⟨O,N⟩:=U k x h Y;have S:=C3 U h Y;refine ac kO (ae h) aa ?_;refine⟨(m+1,x.pa),?_,kN aa [],?_⟩
   ·refine⟨?_,xA,xA,xA⟩;dsimp only;rw[S,uV]at Z;omega
   ·dsimp only;omega
theorem DR {g:Gph}{i:Nat}(h:fe (i7 g) i=0){c:Cl}(V:g.cs[i]? =some c)(T:¬c.pa< -1)(S:¬(i:Int)<=c.pa):oZ g.cs i:=by
 intro j x X R;rcases uD j i with Y|U
 ·have Z:=wi h j Y;rw[vO X]at Z;split at Z
  ·cases Z
  ·split at Z
   ·cases Z
   ·split at Z
    ·cases Z
    ·rename_i Q;omega
 ·obtain rfl:j=i:=xA;rw[V]at X;cases X;omega
theorem KW (g:Gph)(i:Nat)(I:Mod g)(M:i<g.cs.length)(G:fe (i7 g) i=0)(J:g.cs.length<=16):ah Tryz.prog 92 [a7 g, .int i] (.int (i7 g i)):=by
 obtain⟨c,Z⟩:=ak M;have e:=vO Z;have Y:=tN c.nm (I.cs c (uA Z));have S:=rr g c.nm;have U:=K2 (g.cs.take i) 154 [.pt [bi c.nm, .int c.pa]] (λ x=>decide (x.nm=c.nm)) (λ x=>KV x c.nm c.pa);have H:(g.cs.take i).map clD=(g.cs.map clD).take i:=Ai;rw[H]at U;rw[e];rcases L:e8 c.nm with _|_<;>rw[L]at Y
 ·rw[if_pos rfl];refine kE Tryz.func92 ?_;intro h B X R;refine ac kO (ae Z) (ae Y) ?_;exact ap rfl
 ·rw[if_neg xC];by_cases V:0<=eZ g c.nm
  ·rw[if_pos (.inl V)];refine kE Tryz.func92 ?_;intro h B X R;refine ac kO (ai Z V) (ai Y S) ?_;exact ap rfl
  ·rcases K:(g.cs.take i).any (λ x=>decide (x.nm=c.nm))with _|_<;>rw[K]at U
   ·rw[if_neg (by simp;omega)];by_cases T:c.pa< -1
    ·rw[if_pos (.inl T)];refine kE Tryz.func92 ?_;intro h B X R;refine ac kO (av Z V T) (av Y S U) ?_;exact ap rfl
    ·by_cases Q:(i:Int)<=c.pa
     ·rw[if_pos (.inr Q)];refine kE Tryz.func92 ?_;intro h B X R;refine ac kO (aE Z V T Q) (av Y S U) ?_;exact ap rfl
     ·rw[if_neg xA];have N:=Lk g i M (DR G Z T Q) xA;by_cases O:6<(eW g.cs i).length
      ·rw[if_pos O];refine kE Tryz.func92 ?_;intro h B X R;refine ac kO (aQ Z V T Q O) (aE Y S U N) ?_;exact ap rfl
      ·rw[if_neg O];refine kE Tryz.func92 ?_;intro h B X R;refine ac kO (aQ Z V T Q O) (aE Y S U N) ?_;exact ap rfl
   ·rw[if_pos (.inr rfl)];refine kE Tryz.func92 ?_;intro h B X R;refine ac kO (ai Z V) (av Y S U) ?_;exact ap rfl
theorem t6 {g:Gph}{v:Int}{n:Nd}(h:g.ns[v.toNat]? =some n):tZ g v=n.ps.length:=by rw[tZ,h]
theorem lS {a b:Int}(c:Prop)[Decidable c]:(if c then a else b)<b->True:=λ _=>trivial
theorem Lp (g:Gph)(e:Ed):ah Tryz.prog 93 [a7 g,edD e] (.int (lK g e)):=by
 have O:=E0 e.lb;by_cases L:0<=e.fr/\0<=e.to/\e.fr<g.ns.length/\e.to<g.ns.length
 ·obtain⟨A,z,s,b⟩:=L;obtain⟨N,V⟩:=ak (l:=g.ns) (k:=e.fr.toNat) xA;obtain⟨M,U⟩:=ak (l:=g.ns) (k:=e.to.toNat) xA;have F:=t6 V;have E:=t6 U;have q:¬(if e.to<e.fr then e.to else e.fr)<0:=by split<;>omega
  have Y:¬(g.ns.length:Int)<=(if e.fr<e.to then e.to else e.fr):=by split<;>omega
  rw[lK,F,E];by_cases C:e.fp< -1\/e.tp< -1\/(N.ps.length:Int)<=e.fp\/(M.ps.length:Int)<=e.tp
  ·rw[if_pos xA];by_cases Z:(if e.tp<e.fp then e.tp else e.fp)< -1
   ·refine kE Tryz.func93 ?_;intro h B X S;refine ac kO (aQ V U q Y Z) aa ?_;exact ap rfl
   ·have k2:(N.ps.length:Int)<=e.fp\/(M.ps.length:Int)<=e.tp:=by split at Z<;>omega
    by_cases T:(N.ps.length:Int)<=e.fp
    ·refine kE Tryz.func93 ?_;intro h B X S;refine ac kO (bq V U q Y Z T) aa ?_;exact ap rfl
    ·have Q:(M.ps.length:Int)<=e.tp:=xA;refine kE Tryz.func93 ?_;intro h B X S;refine ac kO (bV V U q Y Z T Q) aa ?_;exact ap rfl
  ·rw[if_neg xA];have Z:¬(if e.tp<e.fp then e.tp else e.fp)< -1:=by split<;>omega
   have T:¬(N.ps.length:Int)<=e.fp:=xA;have Q:¬(M.ps.length:Int)<=e.tp:=xA;by_cases K:eN e.lb=0
   ·rw[if_neg xA];rw[K]at O;by_cases J:e.wt<1\/1000<e.wt\/e.ln<1\/64<e.ln
    ·rw[if_pos J];refine kE Tryz.func93 ?_;intro h B X S;refine kw kO (bV V U q Y Z T Q) (ae O) ?_
     repeat' first|exact True.intro|refine Bn.mk ?_ ?_|intro R
     all_goals first|exact ap rfl|(exfalso;omega)
    ·rw[if_neg J];have w1:¬e.wt<1:=xA;have I:¬1000<e.wt:=xA;have H:¬e.ln<1:=xA;have G:¬64<e.ln:=xA;refine kE Tryz.func93 ?_;intro h B X S
     repeat' first|refine bt rfl ?_|refine aV ?_|refine wR ?_|(refine rc (O) rfl ?_ ?_;(· first|rfl|simp(disch:=omega) only[go_sem,simprocAttr,V,U,q,Y,Z,T,Q,w1,I,H,G]))|(refine bB rfl rfl (λ R=>?_) (λ R=>?_)<;>try simp only[hcL]at R)|(refine bA _ rfl rfl (λ R=>?_) (λ R=>?_)<;>(try simp only[hcL]at R)<;>try omega)|simp(disch:=omega) only[go_sem,simprocAttr,V,U,q,Y,Z,T,Q,w1,I,H,G]|apply And.intro|omega|decide+kernel
     exact ap rfl
   ·rw[if_pos xA];refine kE Tryz.func93 ?_;intro h B X S;refine ac kO (bj V U q Y Z T Q K) (ae O) ?_;exact ap rfl
 ·rw[lK,if_pos xA];by_cases q:(if e.to<e.fr then e.to else e.fr)<0
  ·refine kE Tryz.func93 ?_;intro h B X S;refine ac kO (ae q) aa ?_;exact ap rfl
  ·have Y:(g.ns.length:Int)<=(if e.fr<e.to then e.to else e.fr):=by split at q<;>split<;>omega
   refine kE Tryz.func93 ?_;intro h B X S;refine ac kO (ai q Y) aa ?_;exact ap rfl
theorem tv (g:Gph)(N:Mod g):ah Tryz.prog 45 [a7 g] (.int (ee g)):=by
 have O:=tN g.nm N.nm;rw[ee];by_cases I:64<g.ns.length\/256<g.es.length\/16<g.cs.length
 ·rw[if_pos I];refine kE Tryz.func45 ?_;intro R B X G;refine kw kO aa aa ?_
  repeat' first|exact True.intro|refine Bn.mk ?_ ?_|intro C
  all_goals first|exact ap rfl|(exfalso;omega)
 ·rw[if_neg I];have L:¬(64:Int)<g.ns.length:=xA;have K:¬(256:Int)<g.es.length:=xA;have J:¬(16:Int)<g.cs.length:=xA;rcases F:e8 g.nm with _|_<;>rw[F]at O
  ·rw[if_pos rfl];refine kE Tryz.func45 ?_;intro R B X G;refine ac kO (av L K J) (ae O) ?_;exact ap rfl
  ·rw[if_neg xC];refine kE Tryz.func45 ?_;intro R B X G;refine ac kO (av L K J) (ae O) ?_;refine aq (λ(k:Nat)=>k<=g.ns.length/\fe (lq g) k=0) (λ k=>[(1, .ptr 1 0 0 0),(32, .int g.ns.length),(33, .int k)]) (λ k=>[(1, .cells [.d (bi g.nm), .d (.bool g.dir), .d (.sl (g.ns.map ndD)), .d (.sl (g.es.map edD)), .d (.sl (g.cs.map clD))])]) (λ k=>g.ns.length-k) 0 ?_ ?_ ?_
   ·exact⟨uF _,rfl⟩
   ·exact kN aa []
   ·rintro k ⟨H,S⟩;rcases uD k g.ns.length with Z|Q
    ·have T:=Og g k N Z;by_cases V:lq g k=0
     ·rw[V]at T;refine ac kO aa (ae T) ?_;refine⟨k+1,?_,kN aa [],?_⟩
      ·exact⟨Z,m9 S V⟩
      ·omega
     ·refine ac kO (ae V) (ae T) ?_;exact ap (by rw[ir S V _ Z,if_pos V])
    ·obtain rfl:k=g.ns.length:=xA;rw[if_neg (λ h=>h S)];refine ac kO aa aa ?_;refine aq (λ(k:Nat)=>k<=g.cs.length/\fe (i7 g) k=0) (λ k=>[(1, .ptr 1 0 0 0),(45, .int g.cs.length),(46, .int k)]) (λ k=>[(1, .cells [.d (bi g.nm), .d (.bool g.dir), .d (.sl (g.ns.map ndD)), .d (.sl (g.es.map edD)), .d (.sl (g.cs.map clD))])]) (λ k=>g.cs.length-k) 0 ?_ ?_ ?_
     ·exact⟨uF _,rfl⟩
     ·exact kN aa []
     ·rintro k ⟨H,Y⟩;rcases uD k g.cs.length with Z|Q
      ·have T:=KW g k N Z Y xA;by_cases V:i7 g k=0
       ·rw[V]at T;refine ac kO aa (ae T) ?_;refine⟨k+1,?_,kN aa [],?_⟩
        ·exact⟨Z,m9 Y V⟩
        ·omega
       ·refine ac kO (ae V) (ae T) ?_;exact ap (by rw[ir Y V _ Z,if_pos V])
      ·obtain rfl:k=g.cs.length:=xA;rw[if_neg (λ h=>h Y)];refine ac kO aa aa ?_;refine aq (λ(k:Nat)=>k<=g.es.length/\fe (k5 g) k=0) (λ k=>[(1, .ptr 1 0 0 0),(57, .d (.sl (g.es.map edD))),(58, .int g.es.length),(59, .int k)]) (λ k=>[(1, .cells [.d (bi g.nm), .d (.bool g.dir), .d (.sl (g.ns.map ndD)), .d (.sl (g.es.map edD)), .d (.sl (g.cs.map clD))])]) (λ k=>g.es.length-k) 0 ?_ ?_ ?_
       ·exact⟨uF _,rfl⟩
       ·exact kN aa []
       ·rintro k ⟨H,U⟩;rcases uD k g.es.length with Z|Q
        ·obtain⟨x,M⟩:=ak Z;have T:=Lp g x;have E:k5 g k=lK g x:=by rw[k5,M]
         rw[<-E]at T;by_cases V:k5 g k=0
         ·rw[V]at T;refine ac kO (ae M) (ae T) ?_;refine⟨k+1,?_,kN aa [],?_⟩
          ·exact⟨Z,m9 U V⟩
          ·omega
         ·refine ac kO (ai M V) (ae T) ?_;exact ap (by rw[ir U V _ Z])
        ·refine ac kO aa aa ?_;exact ap (by rw[show g.es.length=k by omega,U])
end Go.Proofs.YtjjbhjnpeenbkaaGreatDoor.Gr
