/- The built-in functions, and every operation. -/
import Derived.Test.YtldbcbclhpcofaaPSOps7
set_option linter.unusedSimpArgs false
set_option linter.unusedVariables false
namespace Go.PS
open Go

section hold
variable {P : Program} {B X : Nat → Prop} {w0 : W0} {w : World} {n : Nat} {S : St} {a : Act} {ι : Nat → Option Nat} {dst : Option Nat} {ty : TypeId} {pos : String} {af : Array Edge} {gd : Option (Nat × Bool)}

theorem sim_builtin (hS : Hold B X w0 n S a w ι) {b : Builtin} {as : Array Operand} {tys : Array TypeId} (hd : ∀ t, dst = some t → t < n) (hx : ∀ x ∈ as.toList, constOk x = true)
  (hc : (semBuiltin P S.objs dst b tys.toList (as.toList.map S.ev)).1) :
  Goes P B X w0 n ⟨dst, .call ⟨.builtin b, as, tys⟩, ty, pos, af, gd⟩ (S.app dst (semBuiltin P S.objs dst b tys.toList (as.toList.map S.ev)).2) a w := by
 obtain ⟨as⟩ := as
 obtain ⟨tys⟩ := tys
 simp only at hx hc ⊢
 unfold semBuiltin at hc ⊢
 split at hc
 · -- len
  rename_i t x he
  obtain ⟨y, rfl, rfl⟩ : ∃ y, as = [y] ∧ S.ev y = x := by
   match as, he with
   | [y], he => exact ⟨y, rfl, by simpa using he⟩
  have hp := hS.ev (hx y (by simp))
  cases hl : lenPV (S.ev y) with
  | none =>
   rw [hl] at hc
   simp only [semLenM] at hc ⊢
   split at hc
   ·rename_i o ho
    split at hc
    ·rename_i l hob
     exact sim_lenMap hS hd (hx y (by simp)) ho hob hc
    ·exact hc.elim
   ·exact hc.elim
  | some m =>
   rw [hl] at hc
   simp only
   rw [app_v]
   obtain ⟨bb, cc, hv⟩ := len_at hp hl
   have hu := kind1 hc
   refine hS.goes (v := .int .i64 m) hd ?_ (.d _ _ (.sc _ rfl))
   simp [execOp, resolve, invoke, builtin, hv, Builtin.len_, run_underlying hu, goInt]
 · -- min
  rename_i p q he
  obtain ⟨y, z, rfl, e1, e2⟩ : ∃ y z, as = [y, z] ∧ S.ev y = .d (.sc (.int .i64 p)) ∧ S.ev z = .d (.sc (.int .i64 q)) := by
   match as, he with
   | [y, z], he => simp at he; exact ⟨y, z, rfl, he.1, he.2⟩
   | [], he => simp at he
   | [_], he => simp at he
   | _ :: _ :: _ :: _, he => simp at he
  have h1 := hS.ev (hx y (by simp))
  have h2 := hS.ev (hx z (by simp))
  rw [e1] at h1
  rw [e2] at h2
  simp only
  rw [app_v]
  refine hS.goes (v := .int .i64 (if q < p then q else p)) hd ?_ (.d _ _ (.sc _ rfl))
  simp [execOp, resolve, invoke, builtin, d_int h1, d_int h2, Builtin.min_, Builtin.min2]
 · -- max
  rename_i p q he
  obtain ⟨y, z, rfl, e1, e2⟩ : ∃ y z, as = [y, z] ∧ S.ev y = .d (.sc (.int .i64 p)) ∧ S.ev z = .d (.sc (.int .i64 q)) := by
   match as, he with
   | [y, z], he => simp at he; exact ⟨y, z, rfl, he.1, he.2⟩
   | [], he => simp at he
   | [_], he => simp at he
   | _ :: _ :: _ :: _, he => simp at he
  have h1 := hS.ev (hx y (by simp))
  have h2 := hS.ev (hx z (by simp))
  rw [e1] at h1
  rw [e2] at h2
  simp only
  rw [app_v]
  refine hS.goes (v := .int .i64 (if p < q then q else p)) hd ?_ (.d _ _ (.sc _ rfl))
  simp [execOp, resolve, invoke, builtin, d_int h1, d_int h2, Builtin.max_, Builtin.max2]
 · -- min of three
  rename_i p q r he
  obtain ⟨y, z, x, rfl, e1, e2, e3⟩ : ∃ y z x, as = [y, z, x] ∧ S.ev y = .d (.sc (.int .i64 p)) ∧ S.ev z = .d (.sc (.int .i64 q)) ∧ S.ev x = .d (.sc (.int .i64 r)) := by
   match as, he with
   | [y, z, x], he => simp at he; exact ⟨y, z, x, rfl, he.1, he.2.1, he.2.2⟩
   | [], he => simp at he
   | [_], he => simp at he
   | [_, _], he => simp at he
   | _ :: _ :: _ :: _ :: _, he => simp at he
  have h1 := hS.ev (hx y (by simp))
  have h2 := hS.ev (hx z (by simp))
  have h3 := hS.ev (hx x (by simp))
  rw [e1] at h1
  rw [e2] at h2
  rw [e3] at h3
  simp only
  rw [app_v]
  refine hS.goes (v := .int .i64 (if r < (if q < p then q else p) then r else (if q < p then q else p))) hd ?_ (.d _ _ (.sc _ rfl))
  simp [execOp, resolve, invoke, builtin, d_int h1, d_int h2, d_int h3, Builtin.min_, Builtin.min2]
 · -- max of three
  rename_i p q r he
  obtain ⟨y, z, x, rfl, e1, e2, e3⟩ : ∃ y z x, as = [y, z, x] ∧ S.ev y = .d (.sc (.int .i64 p)) ∧ S.ev z = .d (.sc (.int .i64 q)) ∧ S.ev x = .d (.sc (.int .i64 r)) := by
   match as, he with
   | [y, z, x], he => simp at he; exact ⟨y, z, x, rfl, he.1, he.2.1, he.2.2⟩
   | [], he => simp at he
   | [_], he => simp at he
   | [_, _], he => simp at he
   | _ :: _ :: _ :: _ :: _, he => simp at he
  have h1 := hS.ev (hx y (by simp))
  have h2 := hS.ev (hx z (by simp))
  have h3 := hS.ev (hx x (by simp))
  rw [e1] at h1
  rw [e2] at h2
  rw [e3] at h3
  simp only
  rw [app_v]
  refine hS.goes (v := .int .i64 (if (if p < q then q else p) < r then r else (if p < q then q else p))) hd ?_ (.d _ _ (.sc _ rfl))
  simp [execOp, resolve, invoke, builtin, d_int h1, d_int h2, d_int h3, Builtin.max_, Builtin.max2]
 · -- append
  rename_i t u s x he
  obtain ⟨y, z, rfl, rfl, rfl⟩ : ∃ y z, as = [y, z] ∧ S.ev y = s ∧ S.ev z = x := by
   match as, he with
   | [y, z], he => simp at he; exact ⟨y, z, rfl, he.1, he.2⟩
  cases hcx : cellOf? S.objs (S.ev z) with
  | none =>
   rw [hcx] at hc
   exact sim_append hS hd (hx y (by simp)) (hx z (by simp)) hc
  | some q =>
   rw [hcx] at hc
   exact sim_appendC hS hd (hx y (by simp)) (hx z (by simp)) hcx hc
 ·exact hc.elim

def Oper.plain (n : Nat) (o : Oper) : Bool :=
 o.op.operands.toList.all constOk && (match o.dst with | some t => decide (t < n) | none => true) && (match o.op with | .store .. => o.dst.isNone | .mapUpdate .. => o.dst.isNone | _ => true)

theorem sim_sem (hS : Hold B X w0 n S a w ι) {own : Nat → Bool} (o : Oper) (hpl : Oper.plain n o = true) (hc : (sem P own S.ev S.objs o.dst o.op).1) :
  Goes P B X w0 n o (S.app o.dst (sem P own S.ev S.objs o.dst o.op).2) a w := by
 obtain ⟨dst, op, ty, pos, af, gd⟩ := o
 simp only [Oper.plain, Bool.and_eq_true, List.all_eq_true] at hpl
 obtain ⟨⟨hops, hdst⟩, hst⟩ := hpl
 have hd : ∀ t, dst = some t → t < n := by rintro t rfl; simpa using hdst
 simp only at hc hops hst ⊢
 cases op with
 | move x => exact sim_move hS hd (hops x (by simp [Op.operands]))
 | assign x => exact sim_assign hS hd (hops x (by simp [Op.operands]))
 | pick c x y => exact sim_pick hS hd (hops c (by simp [Op.operands])) (hops x (by simp [Op.operands])) (hops y (by simp [Op.operands])) hc
 | alloc T => exact sim_alloc hS hd hc
 | box T x => exact sim_box hS hd (hops x (by simp [Op.operands])) hc
 | build T ps => exact sim_build hS hd (fun p hp => hops p.2 (by simp only [Op.operands, List.mem_map]; exact ⟨p, hp, rfl⟩)) hc
 | buildSlice T m ps =>
  have hq : ∀ p ∈ ps.toList, constOk p.2 = true := fun p hp => hops p.2 (by simp only [Op.operands, List.mem_map]; exact ⟨p, hp, rfl⟩)
  simp only [sem] at hc ⊢
  split at hc
  ·rename_i h1
   rw [if_pos h1]
   exact sim_buildRef hS hd hq hc
  ·rename_i h1
   rw [if_neg h1]
   exact sim_buildSlice hS hd hq hc
 | load T x => exact sim_load hS hd (hops x (by simp [Op.operands])) hc
 | store T x y => exact sim_store hS (by simpa using hst) (hops x (by simp [Op.operands])) (hops y (by simp [Op.operands])) hc
 | fieldAddr T x f => exact sim_field hS hd (hops x (by simp [Op.operands])) hc
 | indexAddr T x i => exact sim_index hS hd (hops x (by simp [Op.operands])) (hops i (by simp [Op.operands])) hc
 | binOp op T x y T' => exact sim_bin hS hd (hops x (by simp [Op.operands])) (hops y (by simp [Op.operands])) hc
 | unOp op T x => exact sim_un hS hd (hops x (by simp [Op.operands])) hc
 | convert T U x => exact sim_convert hS hd (hops x (by simp [Op.operands])) hc
 | slice T x lo hi mx => exact sim_slice hS hd (hops x (by simp [Op.operands])) (fun y hy => hops y (by subst hy; simp [Op.operands])) (fun y hy => hops y (by subst hy; simp [Op.operands])) (fun y hy => hops y (by subst hy; simp [Op.operands])) hc
 | extract x i => exact sim_extract hS hd (hops x (by simp [Op.operands])) hc
 | nilCheck x => exact sim_nilCheck hS hd (hops x (by simp [Op.operands])) hc
 | makeSlice T l c => exact sim_makeSlice hS hd (hops l (by simp [Op.operands])) (hops c (by simp [Op.operands])) hc
 | makeFunc fn fi ca => exact sim_makeFunc hS hd (fun x hx => hops x (by simp only [Op.operands, Array.toList_append, List.mem_append]; exact .inr hx)) hc
 | makeMap T r =>
  cases r with
  | none => exact sim_makeMap hS hd hc
  | some _ => exact hc.elim
 | mapUpdate T x y z => exact sim_mapUpdate hS (by simpa using hst) (hops x (by simp [Op.operands])) (hops y (by simp [Op.operands])) (hops z (by simp [Op.operands])) hc
 | lookup T x y ok =>
  cases ok with
  | false => exact sim_lookup hS hd (hops x (by simp [Op.operands])) (hops y (by simp [Op.operands])) hc
  | true => exact hc.elim
 | call c =>
  obtain ⟨cal, as, tys⟩ := c
  cases cal with
  | builtin b => exact sim_builtin hS hd (fun x hx => hops x (by simp only [Op.operands, Call.operands]; simpa using hx)) hc
  | _ => exact hc.elim
 | _ => exact hc.elim
end hold
end Go.PS
namespace Go.PS
open Go

section
variable {P : Program} {own : Nat → Bool} {objs objs' : Nat → Ob}

def Does1 (P : Program) (own : Nat → Bool) (o : Oper) (S : St) (e : Eff) : Prop :=
 match o.op with
 | .call { callee := .value f, args, .. } => (∃ r, CallCond P S.objs (S.ev f) (args.toList.map S.ev) r ∧ e = { val := .d r, rd := (args.toList.map S.ev).flatMap (PV.refs S.objs 4) }) ∨
   CallCondM P S.objs (S.ev f) (args.toList.map S.ev) e
 | op => (sem P own S.ev S.objs o.dst op).1 ∧ e = (sem P own S.ev S.objs o.dst op).2

def Does (P : Program) (own : Nat → Bool) (all : List Oper) (o : Oper) (S : St) (e : Eff) : Prop :=
 match o.guard with
 | none => Does1 P own o S e
 | some (j, want) => ∃ g, grd all S j = some g ∧ if g = some want then Does1 P own o S e else e = { val := .und }

def Runs (P : Program) (own : Nat → Bool) (all : List Oper) : List Oper → St → St → List Foot → Prop
 | [], S, S', fs => S' = S ∧ fs = []
 | o :: rest, S, S', fs => ∃ e fs', Does P own all o S e ∧ Runs P own all rest (S.app o.dst e) S' fs' ∧ fs = e.foot :: fs'

theorem wpOp_does {o : Oper} {S : St} {fs : List Foot} {k : St → List Foot → Prop} (h : wpOp P own o S fs k) : ∃ e, Does1 P own o S e ∧ k (S.app o.dst e) (e.foot :: fs) := by
 obtain ⟨dst, op, ty, pos, af, gd⟩ := o
 cases op with
 | call c =>
  obtain ⟨cal, as, tys⟩ := c
  cases cal with
  | value f =>
   rcases h with ⟨r, hc, hk⟩ | ⟨e, hc, hk⟩
   ·refine ⟨_, .inl ⟨r, hc, rfl⟩, ?_⟩
    rw [app_rd]; exact hk
   ·exact ⟨_, .inr hc, hk⟩
  | builtin b => exact ⟨_, ⟨h.1, rfl⟩, h.2⟩
  | invoke r m => exact h.1.elim
 | _ => exact ⟨_, ⟨h.1, rfl⟩, h.2⟩

theorem runs_of_wpRun {all : List Oper} : ∀ (ops : List Oper) (S : St) (fs : List Foot) (K : St → List Foot → Prop), wpRun P own all ops S fs K → ∃ S' fs', Runs P own all ops S S' fs' ∧ K S' (fs'.reverse ++ fs) := by
 intro ops
 induction ops with
 | nil => intro S fs K h; exact ⟨S, [], ⟨rfl, rfl⟩, h⟩
 | cons o rest ih =>
  intro S fs K h
  have one : wpOp P own o S fs (fun S' fs' => wpRun P own all rest S' fs' K) → ∃ e S' fs', Does1 P own o S e ∧ Runs P own all rest (S.app o.dst e) S' fs' ∧ K S' (fs'.reverse ++ (e.foot :: fs)) := by
   intro h
   obtain ⟨e, h1, h2⟩ := wpOp_does h
   obtain ⟨S', fs', h3, h4⟩ := ih _ _ _ h2
   exact ⟨e, S', fs', h1, h3, h4⟩
  simp only [wpRun] at h
  cases hg : o.guard with
  | none =>
   rw [hg] at h
   obtain ⟨e, S', fs', h1, h2, h3⟩ := one h
   exact ⟨S', e.foot :: fs', ⟨e, fs', by simp only [Does, hg]; exact h1, h2, rfl⟩, by simpa using h3⟩
  | some q =>
   obtain ⟨j, want⟩ := q
   rw [hg] at h
   simp only at h
   cases hb : grd all S j with
   | none => rw [hb] at h; exact h.elim
   | some b =>
    rw [hb] at h
    simp only at h
    split at h
    ·rename_i hw
     obtain ⟨e, S', fs', h1, h2, h3⟩ := one h
     exact ⟨S', e.foot :: fs', ⟨e, fs', by simp only [Does, hg]; exact ⟨b, hb, by rw [if_pos hw]; exact h1⟩, h2, rfl⟩, by simpa using h3⟩
    ·rename_i hw
     obtain ⟨S', fs', h1, h2⟩ := ih _ _ _ h
     exact ⟨S', ([], []) :: fs', ⟨{ val := .und }, fs', by simp only [Does, hg]; exact ⟨b, hb, by rw [if_neg hw]; trivial⟩, by rw [app_v]; exact h1, rfl⟩, by simpa using h2⟩

/-! ### What an operation looks at. -/

theorem toD_congr : ∀ (k : Nat) (p : PV), (∀ o ∈ p.refs objs k, objs' o = objs o) → toD objs' k p = toD objs k p ∧ p.refs objs' k = p.refs objs k := by
 intro k
 induction k with
 | zero => intro p _; exact ⟨rfl, rfl⟩
 | succ k ih =>
  intro p h
  have list : ∀ (cs : List PV), (∀ o ∈ cs.flatMap (PV.refs objs k), objs' o = objs o) → cs.mapM (toD objs' k) = cs.mapM (toD objs k) ∧ cs.flatMap (PV.refs objs' k) = cs.flatMap (PV.refs objs k) := by
   intro cs
   induction cs with
   | nil => intro _; exact ⟨rfl, rfl⟩
   | cons c cs ihc =>
    intro hc
    simp only [List.flatMap_cons, List.mem_append] at hc
    obtain ⟨h1, h2⟩ := ih c (fun o ho => hc o (.inl ho))
    obtain ⟨h3, h4⟩ := ihc (fun o ho => hc o (.inr ho))
    simp only [List.mapM_cons, List.flatMap_cons, h1, h2, h3, h4, and_self]
  cases p with
  | d x => exact ⟨rfl, rfl⟩
  | nilS => exact ⟨rfl, rfl⟩
  | z0 => exact ⟨rfl, rfl⟩
  | unk => exact ⟨rfl, rfl⟩
  | und => exact ⟨rfl, rfl⟩
  | ab => exact ⟨rfl, rfl⟩
  | mp _ => exact ⟨rfl, rfl⟩
  | ref o sz off len cap =>
   have hm : o ∈ (PV.ref o sz off len cap).refs objs (k + 1) := by simp only [PV.refs]; split <;> simp
   have ho := h o hm
   simp only [PV.refs, toD] at h ⊢
   rw [ho]
   cases hob : objs o with
   | dead => exact ⟨rfl, rfl⟩
   | gone => exact ⟨rfl, rfl⟩
   | row _ _ => exact ⟨rfl, rfl⟩
   | imap _ => exact ⟨rfl, rfl⟩
   | cells cs =>
    rw [hob] at h
    simp only at h ⊢
    obtain ⟨h1, h2⟩ := list ((cs.drop off).take len) (fun o ho => h o (List.mem_cons_of_mem _ ho))
    rw [h1, h2]; exact ⟨rfl, rfl⟩
  | ptr o sz i c =>
   have hm : o ∈ (PV.ptr o sz i c).refs objs (k + 1) := by simp only [PV.refs]; split <;> simp
   have ho := h o hm
   simp only [PV.refs, toD] at h ⊢
   rw [ho]
   cases hob : objs o with
   | dead => exact ⟨rfl, rfl⟩
   | gone => exact ⟨rfl, rfl⟩
   | row _ _ => exact ⟨rfl, rfl⟩
   | imap _ => exact ⟨rfl, rfl⟩
   | cells cs =>
    rw [hob] at h
    simp only at h ⊢
    obtain ⟨h1, h2⟩ := list cs (fun o ho => h o (List.mem_cons_of_mem _ ho))
    rw [h1, h2]; exact ⟨rfl, rfl⟩
  | ag cs => obtain ⟨h1, h2⟩ := list cs (by simpa [PV.refs] using h); simp only [toD, PV.refs, h1, h2, and_self]
  | tup cs => obtain ⟨h1, h2⟩ := list cs (by simpa [PV.refs] using h); simp only [toD, PV.refs, h1, h2, and_self]
  | fn f cs => obtain ⟨h1, h2⟩ := list cs (by simpa [PV.refs] using h); simp only [toD, PV.refs, h1, h2, and_self]

theorem toDs_congr (k : Nat) : ∀ (cs : List PV), (∀ o ∈ cs.flatMap (PV.refs objs k), objs' o = objs o) → cs.mapM (toD objs' k) = cs.mapM (toD objs k) ∧ cs.flatMap (PV.refs objs' k) = cs.flatMap (PV.refs objs k) := by
 intro cs
 induction cs with
 | nil => intro _; exact ⟨rfl, rfl⟩
 | cons c cs ihc =>
  intro hc
  simp only [List.flatMap_cons, List.mem_append] at hc
  obtain ⟨h1, h2⟩ := toD_congr k c (fun o ho => hc o (.inl ho))
  obtain ⟨h3, h4⟩ := ihc (fun o ho => hc o (.inr ho))
  simp only [List.mapM_cons, List.flatMap_cons, h1, h2, h3, h4, and_self]

def Agree (e : Eff) (objs objs' : Nat → Ob) : Prop := (∀ o ∈ e.rd, objs' o = objs o) ∧ ∀ q ∈ e.wr, objs' q.1 = objs q.1

theorem semLoad_congr {ty : TyI} {p : PV} (ha : Agree (semLoad ty objs p).2 objs objs') : semLoad ty objs' p = semLoad ty objs p := by
 cases p with
 | ptr o sz i c =>
  have : objs' o = objs o := ha.1 o (by simp [semLoad])
  simp only [semLoad, this]
 | d x => cases x <;> rfl
 | _ => rfl

theorem semStore_congr {ty : TyI} {p : PV} {x : Option (List PV)} (ha : Agree (semStore ty objs p x).2 objs objs') : semStore ty objs' p x = semStore ty objs p x := by
 cases x with
 | none => cases p <;> rfl
 | some vs =>
  cases p with
  | ptr o sz i c =>
   have : objs' o = objs o := ha.2 (o, _) (by simp only [semStore, List.mem_singleton]; rfl)
   simp only [semStore, this]
  | _ => rfl

theorem semAppend_congr {dst : Option Nat} {st xt ety : TyI} {s x : PV} (hc : (semAppend objs dst st xt ety s x).1) (ha : Agree (semAppend objs dst st xt ety s x).2 objs objs') :
  semAppend objs' dst st xt ety s x = semAppend objs dst st xt ety s x := by
 obtain ⟨ys, t', hys, hdst, hdead, _, _, _, _, _, hcase⟩ := semAppend_cond hc
 have hrd : ∀ o ∈ srcR x, objs' o = objs o := fun o ho => by
  rcases hcase with ⟨_, _, _, _, _, _, _, _, _, _, heq⟩ | ⟨_, _, heq⟩ <;>
  ·rw [heq] at ha; exact ha.1 o ho
 have hx : srcD objs' x = srcD objs x := by
  cases x with
  | ref o sz off len cap => simp only [srcD, hrd o (by simp [srcR])]
  | d x => cases x <;> rfl
  | _ => rfl
 have ht : objs' t' = objs t' := by
  rcases hcase with ⟨_, _, _, _, _, _, _, _, _, _, heq⟩ | ⟨_, _, heq⟩ <;>
  ·rw [heq] at ha; exact ha.2 (t', _) (by simp only [List.mem_cons]; exact .inl rfl)
 subst hdst
 rcases hcase with ⟨o, sz, len, cap, l, rfl, hob, _, _, _, heq⟩ | ⟨hs, _, heq⟩
 ·have ho : objs' o = objs o := by rw [heq] at ha; exact ha.2 (o, .gone) (by simp)
  unfold semAppend
  rw [hx, hys]
  simp only [ho, ht]
 ·unfold semAppend
  rw [hx, hys]
  rcases hs with rfl | rfl <;> simp only [ht]

theorem cellOf_congr {x : PV} (h : ∀ o ∈ srcR x, objs' o = objs o) : cellOf? objs' x = cellOf? objs x := by
 cases x with
 | ref o sz off len cap => simp only [cellOf?, h o (by simp [srcR])]
 | _ => rfl
theorem srcR_of {x p : PV} {o2 : Nat} (h : cellOf? objs x = some (p, o2)) : srcR x = [o2] := by
 cases x <;> try (simp only [cellOf?] at h; cases h; done)
 rename_i o sz off len cap
 simp only [cellOf?] at h
 cases ho : oneCell? (objs o) with
 | none => rw [ho] at h; cases h
 | some q =>
  rw [ho] at h
  simp only at h
  split at h
  ·cases h; rfl
  ·cases h
theorem semAppendC_congr {dst : Option Nat} {st xt ety : TyI} {s p : PV} {o2 : Nat} (hc : (semAppendC objs dst st xt ety s p o2).1) (ha : Agree (semAppendC objs dst st xt ety s p o2).2 objs objs') :
  semAppendC objs' dst st xt ety s p o2 = semAppendC objs dst st xt ety s p o2 ∧ objs' o2 = objs o2 := by
 unfold semAppendC at hc ha ⊢
 split at hc
 ·rename_i t o sz off len cap
  cases hcs : cellsOf? (objs o) with
  | none => rw [hcs] at hc; exact hc.elim
  | some cs =>
   simp only [hcs] at ha
   have h1 : objs' o = objs o := ha.2 (o, .gone) (by simp)
   have h2 : objs' t = objs t := ha.2 (t, _) (by simp only [List.mem_cons]; exact .inl rfl)
   have h3 : objs' o2 = objs o2 := ha.1 o2 (by simp)
   simp only [h1, h2, h3, hcs, and_true]
 ·exact hc.elim
theorem semBuildRef_congr {dst : Option Nat} {ty ety : TyI} {n : Nat} {ps : List (Nat × PV)} (ha : Agree (semBuildRef objs dst ty ety n ps).2 objs objs') : semBuildRef objs' dst ty ety n ps = semBuildRef objs dst ty ety n ps := by
 unfold semBuildRef at ha ⊢
 split
 ·simp only at ha
  rename_i t i p
  rw [ha.2 (t, _) (by simp only [List.mem_singleton]; rfl)]
 ·rfl
theorem semMakeMap_congr {ty : TyI} {dst : Option Nat} (ha : Agree (semMakeMap ty objs dst).2 objs objs') : semMakeMap ty objs' dst = semMakeMap ty objs dst := by
 cases dst with
 | none => rfl
 | some t =>
  have : objs' t = objs t := ha.2 (t, _) (by simp only [semMakeMap, List.mem_singleton]; rfl)
  simp only [semMakeMap, this]
theorem semMapUpdate_congr {ty : TyI} {m k v : PV} (hc : (semMapUpdate ty objs m k v).1) (ha : Agree (semMapUpdate ty objs m k v).2 objs objs') : semMapUpdate ty objs' m k v = semMapUpdate ty objs m k v := by
 unfold semMapUpdate at hc ha ⊢
 split at hc
 ·rename_i o a c
  split at hc
  ·rename_i l hl
   simp only [hl] at ha ⊢
   have : objs' o = objs o := ha.2 (o, _) (by simp only [List.mem_singleton]; rfl)
   simp only [this, hl]
  ·exact hc.elim
 ·exact hc.elim
theorem semLookup_congr {ty : TyI} {m k : PV} (hc : (semLookup ty objs m k).1) (ha : Agree (semLookup ty objs m k).2 objs objs') : semLookup ty objs' m k = semLookup ty objs m k := by
 unfold semLookup at hc ha ⊢
 split at hc
 ·rename_i o a
  split at hc
  ·rename_i l hl
   simp only [hl] at ha ⊢
   have : objs' o = objs o := ha.1 o (by simp)
   simp only [this, hl]
  ·exact hc.elim
 ·exact hc.elim
theorem semLen_congr {ty : TyI} {x : PV} (hc : (semLenM ty objs x).1) (ha : Agree (semLenM ty objs x).2 objs objs') : semLenM ty objs' x = semLenM ty objs x := by
 unfold semLenM at hc ha ⊢
 split at hc
 ·rename_i o
  split at hc
  ·rename_i l hl
   simp only [hl] at ha ⊢
   have : objs' o = objs o := ha.1 o (by simp)
   simp only [this, hl]
  ·exact hc.elim
 ·exact hc.elim
theorem semBuiltin_congr {dst : Option Nat} {b : Builtin} {tys : List TypeId} {xs : List PV} (hc : (semBuiltin P objs dst b tys xs).1) (ha : Agree (semBuiltin P objs dst b tys xs).2 objs objs') :
  semBuiltin P objs' dst b tys xs = semBuiltin P objs dst b tys xs := by
 unfold semBuiltin at hc ha ⊢
 split at hc <;> try first | rfl | exact hc.elim
 ·rename_i t x
  simp only at ha ⊢
  cases hl : lenPV x with
  | some n => rfl
  | none => rw [hl] at hc ha; exact semLen_congr hc ha
 ·rename_i t u s x
  simp only at ha ⊢
  cases hx : cellOf? objs x with
  | some q =>
   obtain ⟨p, o2⟩ := q
   rw [hx] at hc ha
   obtain ⟨h1, h2⟩ := semAppendC_congr hc ha
   rw [cellOf_congr (objs := objs) (fun o ho => by rw [srcR_of hx] at ho; rw [List.mem_singleton.1 ho]; exact h2), hx]
   exact h1
  | none =>
   rw [hx] at hc ha
   have hrd : ∀ o ∈ srcR x, objs' o = objs o := fun o ho => by
    obtain ⟨_, _, _, _, _, _, _, _, _, _, hcase⟩ := semAppend_cond hc
    rcases hcase with ⟨_, _, _, _, _, _, _, _, _, _, heq⟩ | ⟨_, _, heq⟩ <;>
    ·rw [heq] at ha; exact ha.1 o ho
   rw [cellOf_congr hrd, hx]
   exact semAppend_congr hc ha

theorem sem_congr {ev ev' : Operand → PV} {dst : Option Nat} {op : Op} (hev : ∀ x ∈ op.operands, ev' x = ev x) (hc : (sem P own ev objs dst op).1) (ha : Agree (sem P own ev objs dst op).2 objs objs') :
  sem P own ev' objs' dst op = sem P own ev objs dst op := by
 cases op with
 | move x => simp only [sem, hev x (by simp [Op.operands])]
 | assign x => simp only [sem, hev x (by simp [Op.operands])]
 | pick c a b => simp only [sem, hev c (by simp [Op.operands]), hev a (by simp [Op.operands]), hev b (by simp [Op.operands])]
 | alloc T =>
  simp only [sem, semAlloc] at hc ha ⊢
  cases dst with
  | none => rfl
  | some t => simp only at ha ⊢; rw [ha.2 (t, _) (by simp only [List.mem_singleton]; rfl)]
 | box T x =>
  simp only [sem, semBox, hev x (by simp [Op.operands])] at hc ha ⊢
  cases dst with
  | none => rfl
  | some t =>
   cases hcs : (ev x).cells? with
   | none => rfl
   | some cs => rw [hcs] at ha; simp only at ha ⊢; rw [ha.2 (t, _) (by simp only [List.mem_singleton]; rfl)]
 | build T ps =>
  simp only [sem]
  have : (ps.toList.map fun p => (p.1, ev' p.2)) = ps.toList.map fun p => (p.1, ev p.2) := List.map_congr_left fun p hp => by
   rw [hev p.2 (by simp only [Op.operands, List.mem_toArray, List.mem_map]; exact ⟨p, hp, rfl⟩)]
  rw [this]
 | buildSlice T n ps =>
  have hps : (ps.toList.map fun p => (p.1, ev' p.2)) = ps.toList.map fun p => (p.1, ev p.2) := List.map_congr_left fun p hp => by
   rw [hev p.2 (by simp only [Op.operands, List.mem_toArray, List.mem_map]; exact ⟨p, hp, rfl⟩)]
  simp only [sem, hps] at hc ha ⊢
  generalize ownAt own dst = ow at hc ha ⊢
  generalize ps.toList.map (fun p => (p.1, ev p.2)) = qs at hc ha ⊢
  by_cases hr1 : isRef1 qs = true
  ·simp only [if_pos hr1] at ha ⊢
   exact semBuildRef_congr ha
  simp only [if_neg hr1] at hc ha ⊢
  unfold semBuildSlice at hc ha ⊢
  generalize hl : elemsF (tyi P (tyi P T).elem).size (List.replicate n (.ofCells (tyi P (tyi P T).elem).agg ((tyi P (tyi P T).elem).zero.map cellD))) (qs.map fun p => (p.1, toD objs 4 p.2)) = res at hc ha
  have hrefs : (qs.map (·.2)).flatMap (PV.refs objs 4) = [] := by
   cases res with
   | none => exact hc.elim
   | some l =>
    cases ow with
    | true => cases dst with
              | none => exact hc.elim
              | some t => exact hc.2.2.2.1
    | false => exact hc.2.2.2
  have hq : ∀ p ∈ qs, toD objs' 4 p.2 = toD objs 4 p.2 ∧ p.2.refs objs' 4 = p.2.refs objs 4 := fun p hp => by
   refine toD_congr 4 p.2 (fun o ho => ?_)
   rw [List.flatMap_eq_nil_iff] at hrefs
   rw [hrefs p.2 (List.mem_map_of_mem hp)] at ho
   cases ho
  have h1 : (qs.map fun p => (p.1, toD objs' 4 p.2)) = qs.map fun p => (p.1, toD objs 4 p.2) := List.map_congr_left fun p hp => by rw [(hq p hp).1]
  have h2 : (qs.map (·.2)).flatMap (PV.refs objs' 4) = (qs.map (·.2)).flatMap (PV.refs objs 4) := (toDs_congr 4 _ (fun o ho => by rw [hrefs] at ho; cases ho)).2
  rw [h1, hl, h2]
  cases res with
  | none => rfl
  | some l =>
   cases ow with
   | true => cases dst with
             | none => rfl
             | some t => simp only [if_true] at ha ⊢; rw [ha.2 (t, _) (by simp only [List.mem_singleton]; rfl)]
   | false => rfl
 | load T x =>
  simp only [sem, hev x (by simp [Op.operands])] at hc ha ⊢
  exact semLoad_congr ha
 | store T x y =>
  simp only [sem, hev x (by simp [Op.operands]), hev y (by simp [Op.operands])] at hc ha ⊢
  exact semStore_congr ha
 | fieldAddr T x f => simp only [sem, hev x (by simp [Op.operands])]
 | indexAddr T x i => simp only [sem, hev x (by simp [Op.operands]), hev i (by simp [Op.operands])]
 | binOp op T x y T' => simp only [sem, hev x (by simp [Op.operands]), hev y (by simp [Op.operands])]
 | unOp op T x => simp only [sem, hev x (by simp [Op.operands])]
 | convert T U x => simp only [sem, hev x (by simp [Op.operands])]
 | extract x i => simp only [sem, hev x (by simp [Op.operands])]
 | nilCheck x => simp only [sem, hev x (by simp [Op.operands])]
 | slice T x lo hi mx =>
  have e1 : lo.map ev' = lo.map ev := by cases lo with | none => rfl | some y => simp only [Option.map_some, hev y (by simp [Op.operands])]
  have e2 : hi.map ev' = hi.map ev := by cases hi with | none => rfl | some y => simp only [Option.map_some, hev y (by simp [Op.operands])]
  have e3 : mx.map ev' = mx.map ev := by cases mx with | none => rfl | some y => simp only [Option.map_some, hev y (by simp [Op.operands])]
  simp only [sem, hev x (by simp [Op.operands]), e1, e2, e3]
 | makeSlice T l c =>
  simp only [sem, hev l (by simp [Op.operands]), hev c (by simp [Op.operands])] at hc ha ⊢
  unfold semMakeSlice at hc ha ⊢
  split at hc
  ·rename_i t n m h1 h2
   rw [h1, h2] at ha
   simp only at ha
   rw [ha.2 (t, _) (by simp only [List.mem_singleton]; rfl)]
  ·exact hc.elim
 | makeFunc fn fi ca =>
  have h1 : fi.toList.map ev' = fi.toList.map ev := List.map_congr_left fun x hx => hev x (by simp only [Op.operands, Array.mem_append]; exact .inl (by simpa using hx))
  have h2 : ca.toList.map ev' = ca.toList.map ev := List.map_congr_left fun x hx => hev x (by simp only [Op.operands, Array.mem_append]; exact .inr (by simpa using hx))
  simp only [sem, h1, h2]
 | makeMap T r =>
  cases r with
  | none => exact semMakeMap_congr ha
  | some _ => rfl
 | mapUpdate T x y z =>
  simp only [sem, hev x (by simp [Op.operands]), hev y (by simp [Op.operands]), hev z (by simp [Op.operands])] at hc ha ⊢
  exact semMapUpdate_congr hc ha
 | lookup T x y ok =>
  cases ok with
  | true => rfl
  | false =>
   simp only [sem, hev x (by simp [Op.operands]), hev y (by simp [Op.operands])] at hc ha ⊢
   exact semLookup_congr hc ha
 | call c =>
  obtain ⟨cal, as, tys⟩ := c
  cases cal with
  | builtin b =>
   have hm : as.toList.map ev' = as.toList.map ev := List.map_congr_left fun x hx => hev x (by simp only [Op.operands, Call.operands]; simpa using hx)
   simp only [sem, hm] at hc ha ⊢
   exact semBuiltin_congr hc ha
  | _ => rfl
 | _ => rfl
end
end Go.PS
namespace Go.PS
open Go

section
variable {P : Program} {own : Nat → Bool} {objs objs' : Nat → Ob} {B X : Nat → Prop} {w0 : W0} {w : World} {n : Nat} {S : St} {a : Act} {ι : Nat → Option Nat} {ops : Array Oper}

theorem toD_viewY (hS : Hold B X w0 n S a w ι) {Y : Nat → Prop} (hY : ∀ b, Y b → ownX ι X b) : ∀ (k : Nat) (p : PV) (v : Value) (d : D), toD S.objs k p = some d → (∀ o ∈ p.refs S.objs k, S.objs o ≠ .gone → ∀ b, ι o = some b → ¬ Y b) → PV.At w ι X p v → D.At w Y d v := by
 intro k
 induction k with
 | zero => intro p v d h; simp [toD] at h
 | succ k ih =>
  intro p v d h href hp
  have list : ∀ (cs : List PV) (ds : List D), cs.mapM (toD S.objs k) = some ds → ds.length = cs.length ∧ ∀ (j : Nat) d, ds[j]? = some d → ∃ p, cs[j]? = some p ∧ toD S.objs k p = some d := by
   intro cs
   induction cs with
   | nil => intro ds hm; simp at hm; subst hm; simp
   | cons c cs ihc =>
    intro ds hm
    simp only [List.mapM_cons] at hm
    cases hc : toD S.objs k c with
    | none => rw [hc] at hm; cases hm
    | some e =>
     rw [hc] at hm
     cases hm2 : cs.mapM (toD S.objs k) with
     | none => rw [hm2] at hm; cases hm
     | some es =>
      rw [hm2] at hm; cases hm
      obtain ⟨g1, g2⟩ := ihc es hm2
      refine ⟨by simp [g1], fun j d hj => ?_⟩
      cases j with
      | zero => simp at hj; subst hj; exact ⟨c, rfl, hc⟩
      | succ j => obtain ⟨p, hp, hq⟩ := g2 j d (by simpa using hj); exact ⟨p, by simpa using hp, hq⟩
  cases p with
  | d x => simp [toD] at h; subst h; cases hp with | d _ _ hp => exact hp.sub hY
  | nilS => simp [toD] at h; subst h; cases hp; exact .slnil none 0
  | z0 => simp [toD] at h; subst h; cases hp; exact .slnil _ 0
  | unk => simp [toD] at h
  | und => simp [toD] at h
  | ab => simp [toD] at h
  | mp _ => simp [toD] at h
  | ref o sz off len cap =>
   simp only [toD] at h
   have hoo := hS.objs o
   have hnY : S.objs o ≠ .gone → ∀ b, ι o = some b → ¬ Y b := href o (by simp only [PV.refs]; split <;> simp)
   cases hob : S.objs o with
   | dead => rw [hob] at h; cases h
   | gone => rw [hob] at h; cases h
   | imap _ => rw [hob] at h; cases h
   | cells cs =>
    rw [hob] at h hoo hnY
    replace hnY := hnY (by simp)
    simp only [PV.refs, hob] at href
    simp only at h
    split at h
    ·rename_i hcond
     obtain ⟨rfl, hle⟩ := hcond
     cases hmm : ((cs.drop off).take len).mapM (toD S.objs k) with
     | none => rw [hmm] at h; cases h
     | some ds =>
      rw [hmm] at h; cases h
      obtain ⟨g1, g2⟩ := list _ ds hmm
      have hlen : ds.length = len := by rw [g1]; simp; omega
      cases hp with
      | ref0 => rw [List.eq_nil_of_length_eq_zero hlen]; exact .slnil _ _
      | ref _ _ _ _ _ capr b hι hl hc hm hs =>
       cases hoo with
       | cells _ b' c T hι' hb hsz hone hat =>
        rw [hι] at hι'; cases hι'
        have key : ∀ (i : Nat) e, ds[i]? = some e → ∃ v, c[off + i]? = some v ∧ c.getD (off + i) undef = v ∧ D.At w Y e v ∧ e.cells = [e] := by
         intro i e hi
         obtain ⟨p, hp, hq⟩ := g2 i e hi
         have hil : i < len := by rw [← hlen]; exact (List.getElem?_eq_some_iff.1 hi).1
         rw [List.getElem?_take, if_pos hil, List.getElem?_drop] at hp
         have hlt : off + i < c.size := by omega
         have hpm : p ∈ (cs.drop off).take len := List.mem_of_getElem? (by rw [List.getElem?_take, if_pos hil, List.getElem?_drop]; exact hp)
         have hat' := ih p _ e hq (fun o ho => href o (List.mem_cons_of_mem _ (List.mem_flatMap.2 ⟨p, hpm, ho⟩))) (hat (off + i) p _ hp (Array.getElem?_eq_getElem hlt))
         exact ⟨_, Array.getElem?_eq_getElem hlt, by simp [Array.getD, hlt], hat', hat'.single (hone _ _ (Array.getElem?_eq_getElem hlt))⟩
        have := D.At.sl (w := w) (X := Y) ds b (off * 1) capr 1 (by omega) hm (fun d hd => by
          obtain ⟨i, hi⟩ := List.getElem?_of_mem hd
          obtain ⟨v, h1, h2, h3, h4⟩ := key i d hi
          rw [h4]; rfl) (fun i j => c.getD (off + i + j) undef)
         (fun i d j e hi hj => by
          obtain ⟨v, h1, h2, h3, h4⟩ := key i d hi
          rw [h4] at hj
          have hj0 : j = 0 := by have := (List.getElem?_eq_some_iff.1 hj).1; simp at this; exact this
          subst hj0
          simp only [Nat.add_zero, Nat.mul_one, h2]
          exact ⟨by rw [cell_arr hb]; exact h1, hone _ v h1, fun h => hnY b hι h⟩)
         (fun i d j e hi hj => by
          obtain ⟨v, h1, h2, h3, h4⟩ := key i d hi
          rw [h4] at hj
          have hj0 : j = 0 := by have := (List.getElem?_eq_some_iff.1 hj).1; simp at this; exact this
          subst hj0
          cases hj
          simp only [Nat.add_zero, h2]
          exact h3)
        rw [hlen] at this
        exact this
    ·cases h
   | row sz' l =>
    rw [hob] at h hoo hnY
    replace hnY := hnY (by simp)
    simp only [PV.refs, hob] at href
    simp only at h
    split at h
    ·rename_i hcond
     obtain ⟨rfl, hle⟩ := hcond
     cases h
     have hlen : ((l.drop off).take len).length = len := by simp; omega
     cases hp with
     | ref0 => simp only [List.take_zero]; exact .slnil _ _
     | ref _ _ _ _ _ capr b hι hl hc hm hs =>
      cases hoo with
      | row0 _ h => rw [h] at hι; cases hι
      | row _ _ b' c T hι' hb hsz hcl hone h =>
       rw [hι] at hι'; cases hι'
       have key : ∀ (i : Nat) d (j : Nat) e, ((l.drop off).take len)[i]? = some d → d.cells[j]? = some e → ∃ v, c[off * sz + i * sz + j]? = some v ∧ c.getD (off * sz + i * sz + j) undef = v ∧ D.At w (ownX ι X) e v := by
        intro i d j e hi hj
        rw [List.getElem?_take] at hi
        split at hi
        ·rename_i hil
         rw [List.getElem?_drop] at hi
         have hjs : j < sz := by rw [← hcl d (List.mem_of_getElem? hi)]; exact (List.getElem?_eq_some_iff.1 hj).1
         have hlt : (off + i) * sz + j < c.size := by
          have : (off + i + 1) * sz ≤ l.length * sz := Nat.mul_le_mul_right _ (by omega)
          rw [Nat.add_mul] at this; omega
         have heq : off * sz + i * sz + j = (off + i) * sz + j := by rw [Nat.add_mul]
         rw [heq]
         have hg : c[(off + i) * sz + j]? = some c[(off + i) * sz + j] := Array.getElem?_eq_getElem hlt
         exact ⟨_, hg, by simp [Array.getD, hlt], h (off + i) d j e _ hi hj hg⟩
        ·cases hi
       have := D.At.sl (w := w) (X := Y) ((l.drop off).take len) b (off * sz) capr sz (by rw [hlen]; exact hl) hm (fun d hd => hcl d (List.mem_of_mem_drop (List.mem_of_mem_take hd)))
        (fun i j => c.getD (off * sz + i * sz + j) undef) (fun i d j e hi hj => by
         obtain ⟨v, h1, h2, h3⟩ := key i d j e hi hj
         simp only [h2]
         exact ⟨by rw [cell_arr hb]; exact h1, hone _ v h1, fun h => hnY b hι h⟩) (fun i d j e hi hj => by
         obtain ⟨v, h1, h2, h3⟩ := key i d j e hi hj
         simp only [h2]
         exact h3.sub hY)
       rw [hlen] at this
       exact this
    ·cases h
  | ptr o sz i c =>
   simp only [toD] at h
   have hoo := hS.objs o
   have hnY : S.objs o ≠ .gone → ∀ b, ι o = some b → ¬ Y b := href o (by simp only [PV.refs]; split <;> simp)
   cases hob : S.objs o with
   | dead => rw [hob] at h; cases h
   | gone => rw [hob] at h; cases h
   | row _ _ => rw [hob] at h; cases h
   | imap _ => rw [hob] at h; cases h
   | cells cs =>
    rw [hob] at h hoo hnY
    replace hnY := hnY (by simp)
    simp only [PV.refs, hob] at href
    simp only at h
    split at h
    ·rename_i hcond
     obtain ⟨rfl, rfl⟩ := hcond
     cases hm : cs.mapM (toD S.objs k) with
     | none => rw [hm] at h; cases h
     | some ds =>
      rw [hm] at h; cases h
      obtain ⟨g1, g2⟩ := list cs ds hm
      cases hp with
      | ptr _ _ _ _ b hι =>
       cases hoo with
       | cells _ b' c T hι' hb hsz hone h =>
        rw [hι] at hι'; cases hι'
        have key : ∀ (j : Nat) e, ds[j]? = some e → ∃ v, c[j]? = some v ∧ c.getD j undef = v ∧ D.At w Y e v := by
         intro j e hj
         obtain ⟨p, hp, hq⟩ := g2 j e hj
         have hlt : j < c.size := by have := (List.getElem?_eq_some_iff.1 hj).1; omega
         exact ⟨_, Array.getElem?_eq_getElem hlt, by simp [Array.getD, hlt], ih p _ e hq (fun o ho => href o (List.mem_cons_of_mem _ (List.mem_flatMap.2 ⟨p, List.mem_of_getElem? hp, ho⟩))) (h j p _ hp (Array.getElem?_eq_getElem hlt))⟩
        refine .pt ds b _ (fun j => c.getD j undef) (fun j e hj => ?_) (fun j e hj => ?_)
        ·obtain ⟨v, h1, h2, h3⟩ := key j e hj
         simp only [h2]
         exact ⟨by rw [cell_arr hb]; simpa using h1, hone _ v h1, fun h => hnY b hι h⟩
        ·obtain ⟨v, h1, h2, h3⟩ := key j e hj
         simp only [h2]; exact h3
    ·cases h
  | ag cs =>
   simp only [toD] at h
   cases hm : cs.mapM (toD S.objs k) with
   | none => rw [hm] at h; cases h
   | some ds =>
    rw [hm] at h; cases h
    obtain ⟨g1, g2⟩ := list cs ds hm
    cases hp with
    | ag _ arr hsz hone hat => exact .ag ds arr (by omega) hone fun j d v hj hv => by
                                 obtain ⟨p, hp, hq⟩ := g2 j d hj
                                 exact ih p v d hq (fun o ho => href o (by simp only [PV.refs]; exact List.mem_flatMap.2 ⟨p, List.mem_of_getElem? hp, ho⟩)) (hat j p v hp hv)
  | tup cs =>
   simp only [toD] at h
   cases hm : cs.mapM (toD S.objs k) with
   | none => rw [hm] at h; cases h
   | some ds =>
    rw [hm] at h; cases h
    obtain ⟨g1, g2⟩ := list cs ds hm
    cases hp with
    | tup _ arr hsz hat => exact .tup ds arr (by omega) fun j d v hj hv => by
                             obtain ⟨p, hp, hq⟩ := g2 j d hj
                             exact ih p v d hq (fun o ho => href o (by simp only [PV.refs]; exact List.mem_flatMap.2 ⟨p, List.mem_of_getElem? hp, ho⟩)) (hat j p v hp hv)
  | fn f cs =>
   simp only [toD] at h
   cases hm : cs.mapM (toD S.objs k) with
   | none => rw [hm] at h; cases h
   | some ds =>
    rw [hm] at h; cases h
    obtain ⟨g1, g2⟩ := list cs ds hm
    cases hp with
    | fn _ _ arr hsz hat => exact .fn f ds arr (by omega) fun j d v hj hv => by
                              obtain ⟨p, hp, hq⟩ := g2 j d hj
                              exact ih p v d hq (fun o ho => href o (by simp only [PV.refs]; exact List.mem_flatMap.2 ⟨p, List.mem_of_getElem? hp, ho⟩)) (hat j p v hp hv)

theorem toD_view (hS : Hold B X w0 n S a w ι) {Y : Nat → Prop} (hY : ∀ b, Y b → X b) (k : Nat) (p : PV) (v : Value) (d : D) (h : toD S.objs k p = some d) (hp : PV.At w ι X p v) : D.At w Y d v :=
 toD_viewY hS (fun b h => .inl (hY b h)) k p v d h (fun o _ _ b hb hYb => (hS.free o b hb).1 (hS.hXB b (hY b hYb))) hp

theorem flat_at {Y Z : Nat → Prop} : ∀ (k : Nat) (d : D) (v : Value), d.flat k = true → D.At w Y d v → D.At w Z d v := by
 intro k
 induction k with
 | zero => intro d v h; simp [D.flat] at h
 | succ k ih =>
  intro d v h hd
  cases hd with
  | sc v h1 => exact .sc v h1
  | ag cs arr hsz hone hat =>
   simp only [D.flat, List.all_eq_true] at h
   exact .ag cs arr hsz hone fun j d v hj hv => ih d v (h d (List.mem_of_getElem? hj)) (hat j d v hj hv)
  | slnil base cap => exact .slnil base cap
  | sl l b off cap sz hl hc hsz vals hv hat =>
   simp only [D.flat, List.isEmpty_iff] at h
   subst h; exact .slnil _ _
  | tup cs arr hsz hat =>
   simp only [D.flat, List.all_eq_true] at h
   exact .tup cs arr hsz fun j d v hj hv => ih d v (h d (List.mem_of_getElem? hj)) (hat j d v hj hv)
  | pt => simp [D.flat] at h
  | fn => simp [D.flat] at h

theorem callFunc_enter {g : FuncId} (hc : Callable P g) (args : Array Value) : (callFunc g args).run P w = .ok (.enter g args) w := by
 obtain ⟨fn, h1, h2, h3⟩ := hc
 simp only [callFunc, Sem.run_bind, run_program, Result.andThen_ok, h1, h3, Bool.false_eq_true, if_false, h2, Sem.run_pure]

theorem call_wp (hS : Hold B X w0 n S a w ι) {dst : Option Nat} {f : Operand} {as : Array Operand} {tys : Array TypeId} {ty : TypeId} {pos : String} {af : Array Edge} {gd : Option (Nat × Bool)}
  (hd : ∀ t, dst = some t → t < n) (hf : constOk f = true) (hx : ∀ x ∈ as.toList, constOk x = true) {r : D} (hc : CallCond P S.objs (S.ev f) (as.toList.map S.ev) r)
  {next : Act → World → Prop} {Q : Exit → Act → World → Prop} (hk : ∀ a' w' ι', Hold B X w0 n (S.put dst (.d r)) a' w' ι' → next a' w') :
  (Oper.mk dst (.call ⟨.value f, as, tys⟩) ty pos af gd).wp P a w next Q := by
 obtain ⟨g, caps, args, hfv, hargs, hcall, hflat⟩ := hc
 have hpf := hS.ev hf
 rw [hfv] at hpf
 obtain ⟨hcb, hcalls⟩ := hcall
 have hfn : ∃ carr : Array Value, a.eval f = .func (.func g) #[] carr ∧ carr.size = caps.length ∧ ∀ (j : Nat) d v, caps[j]? = some d → carr[j]? = some v → D.At w (ownX ι X) d v := by
  generalize a.eval f = fv at hpf
  cases hpf with
  | d _ _ h => cases h with | fn _ _ arr hsz h => exact ⟨arr, rfl, hsz, h⟩
 obtain ⟨carr, hfe, hcs, hcat⟩ := hfn
 have hlen : args.length = as.toList.length ∧ ∀ (j : Nat) d, args[j]? = some d → ∃ x, as.toList[j]? = some x ∧ toD S.objs 4 (S.ev x) = some d := by
  have : ∀ (xs : List Operand) (ds : List D), (xs.map S.ev).mapM (toD S.objs 4) = some ds → ds.length = xs.length ∧ ∀ (j : Nat) d, ds[j]? = some d → ∃ x, xs[j]? = some x ∧ toD S.objs 4 (S.ev x) = some d := by
   intro xs
   induction xs with
   | nil => intro ds h; simp at h; subst h; simp
   | cons x xs ih =>
    intro ds h
    simp only [List.map_cons, List.mapM_cons] at h
    cases h1 : toD S.objs 4 (S.ev x) with
    | none => rw [h1] at h; cases h
    | some d =>
     rw [h1] at h
     cases h2 : (xs.map S.ev).mapM (toD S.objs 4) with
     | none => rw [h2] at h; cases h
     | some es =>
      rw [h2] at h; cases h
      obtain ⟨g1, g2⟩ := ih es h2
      refine ⟨by simp [g1], fun j e hj => ?_⟩
      cases j with
      | zero => simp at hj; subst hj; exact ⟨x, rfl, h1⟩
      | succ j => obtain ⟨y, hy, hq⟩ := g2 j e (by simpa using hj); exact ⟨y, by simpa using hy, hq⟩
  exact this as.toList args hargs
 -- the values that are handed over
 have hvals : ∀ (Y : Nat → Prop), (∀ (j : Nat) d x, args[j]? = some d → as.toList[j]? = some x → toD S.objs 4 (S.ev x) = some d → D.At w Y d (a.eval x)) → (∀ b, Y b → ownX ι X b) → AtAll w Y (args ++ caps) (as.map a.eval ++ carr) := by
  intro Y h1 hY
  refine ⟨by simp [hlen.1, hcs], fun j d v hj hv => ?_⟩
  rw [List.getElem?_append] at hj
  rw [Array.getElem?_append] at hv
  simp only [Array.size_map] at hv
  have hl1 : args.length = as.size := by simpa using hlen.1
  rw [hl1] at hj
  split at hj
  ·rename_i hlt
   rw [if_pos hlt] at hv
   obtain ⟨x, hx1, hx2⟩ := hlen.2 j d hj
   rw [Array.getElem?_map] at hv
   have hax : as[j]? = some x := by simpa using hx1
   rw [hax] at hv; cases hv
   exact h1 j d x hj hx1 hx2
  ·rename_i hlt
   rw [if_neg hlt] at hv
   exact (hcat _ d v hj hv).sub hY
 have hexec : (execOp a.eval (Oper.mk dst (.call ⟨.value f, as, tys⟩) ty pos af gd)).run P w = .ok (.enter g (as.map a.eval ++ carr)) w := by
  simp only [execOp, resolve, hfe, Deferred.ofValue, Sem.run_bind, Sem.run_pure, Result.andThen_ok, invoke, Array.empty_append, callFunc_enter hcb]
 unfold Oper.wp
 rw [hexec, Oper.upon_enter]
 have fin : ∀ v w', D.At w' (ownX ι X) r v → RowKit.Below w.heap.size w w' → next (a.put dst v) w' := fun v w' hr hb => hk _ _ _ ((hS.ext hb).put hd (.d _ _ hr))
 rcases hflat with hnil | hfl
 ·refine Calls.mono (hcalls w (ownX ι X) _ (fun b hb => hS.ownlt hb) (hvals _ (fun j d x hj hxj hxd => ?_) (fun _ h => h))) ?_
  ·refine toD_at 4 (S.ev x) _ d hxd ?_ (hS.ev (hx x (List.mem_of_getElem? hxj)))
   rw [List.flatMap_eq_nil_iff] at hnil
   exact hnil _ (List.mem_map_of_mem (List.mem_of_getElem? hxj))
  ·rintro e w' ⟨v, rfl, hr, hb⟩
   exact fin v w' hr hb
 ·refine Calls.mono (hcalls w (fun _ => False) _ (fun b hb => hb.elim) (hvals _ (fun j d x hj hxj hxd => ?_) (fun _ h => h.elim))) ?_
  ·exact toD_view hS (fun _ h => h.elim) 4 (S.ev x) _ d hxd (hS.ev (hx x (List.mem_of_getElem? hxj)))
  ·rintro e w' ⟨v, rfl, hr, hb⟩
   exact fin v w' (flat_at 4 r v hfl hr) hb

theorem ren_in {ι ιc : Nat → Option Nat} {X Xc : Nat → Prop} {g : Nat → Nat} {L : List Nat} (hι : ∀ i ∈ L, ιc i = ι (g i)) (hX : ∀ b, ownX ιc Xc b → ownX ι X b) :
  ∀ (k : Nat) (p : PV) (v : Value), p.only L k = true → PV.At w ι X (p.ren g) v → PV.At w ιc Xc p v := by
 intro k
 induction k with
 | zero => intro p v h; simp [PV.only] at h
 | succ k ih =>
  intro p v h hp
  have list : ∀ (cs : List PV) (arr : Array Value), cs.all (PV.only L k) = true → (∀ (j : Nat) p v, (cs.map (PV.ren g))[j]? = some p → arr[j]? = some v → PV.At w ι X p v) →
    ∀ (j : Nat) p v, cs[j]? = some p → arr[j]? = some v → PV.At w ιc Xc p v := by
   intro cs arr hc hat j p v hj hv
   simp only [List.all_eq_true] at hc
   exact ih p v (hc p (List.mem_of_getElem? hj)) (hat j _ v (by rw [List.getElem?_map, hj]; rfl) hv)
  cases p with
  | d x => simp only [PV.ren, PV.renL_eq] at hp; cases hp with | d _ _ h => exact .d _ _ (h.sub hX)
  | ref o sz off len cap =>
   simp only [PV.ren, PV.renL_eq] at hp
   simp only [PV.only, List.contains_eq_mem, decide_eq_true_eq] at h
   cases hp with
   | ref _ _ _ _ _ capr b hb hl hc hm hs => exact .ref o sz off len cap capr b ((hι o h).trans hb) hl hc hm hs
   | ref0 _ _ _ base => exact .ref0 _ _ _ base
  | ptr o sz i c =>
   simp only [PV.ren, PV.renL_eq] at hp
   simp only [PV.only, List.contains_eq_mem, decide_eq_true_eq] at h
   cases hp with | ptr _ _ _ _ b hb => exact .ptr o sz i c b ((hι o h).trans hb)
  | nilS => simp only [PV.ren, PV.renL_eq] at hp; cases hp; exact .nilS
  | z0 => simp only [PV.ren, PV.renL_eq] at hp; cases hp; exact .z0 _
  | unk => exact .unk _
  | und => simp only [PV.ren, PV.renL_eq] at hp; cases hp; exact .und
  | ab => simp only [PV.ren, PV.renL_eq] at hp; cases hp; exact .ab _
  | mp o =>
   simp only [PV.ren, PV.renL_eq] at hp
   simp only [PV.only, List.contains_eq_mem, decide_eq_true_eq] at h
   cases hp with | mp _ b hb => exact .mp o b ((hι o h).trans hb)
  | ag cs =>
   simp only [PV.ren, PV.renL_eq] at hp
   cases hp with | ag _ arr hsz hone hat => exact .ag cs arr (by simpa using hsz) hone (list cs arr h hat)
  | tup cs =>
   simp only [PV.ren, PV.renL_eq] at hp
   cases hp with | tup _ arr hsz hat => exact .tup cs arr (by simpa using hsz) (list cs arr h hat)
  | fn f cs =>
   simp only [PV.ren, PV.renL_eq] at hp
   cases hp with | fn _ _ arr hsz hat => exact .fn f cs arr (by simpa using hsz) (list cs arr h hat)

theorem ren_out {ι ιc : Nat → Option Nat} {X Xc : Nat → Prop} {g : Nat → Nat} {L : List Nat} (hι : ∀ i ∈ L, ι (g i) = ιc i) (hX : ∀ b, ownX ι X b → ownX ιc Xc b) :
  ∀ (k : Nat) (p : PV) (v : Value), p.only L k = true → PV.At w ιc Xc p v → PV.At w ι X (p.ren g) v := by
 intro k
 induction k with
 | zero => intro p v h; simp [PV.only] at h
 | succ k ih =>
  intro p v h hp
  have list : ∀ (cs : List PV) (arr : Array Value), cs.all (PV.only L k) = true → (∀ (j : Nat) p v, cs[j]? = some p → arr[j]? = some v → PV.At w ιc Xc p v) →
    ∀ (j : Nat) p v, (cs.map (PV.ren g))[j]? = some p → arr[j]? = some v → PV.At w ι X p v := by
   intro cs arr hc hat j p v hj hv
   simp only [List.all_eq_true] at hc
   rw [List.getElem?_map] at hj
   cases hq : cs[j]? with
   | none => rw [hq] at hj; cases hj
   | some q => rw [hq] at hj; cases hj; exact ih q v (hc q (List.mem_of_getElem? hq)) (hat j q v hq hv)
  cases hp with
  | d x v h => simp only [PV.ren, PV.renL_eq]; exact .d _ _ (h.sub hX)
  | ref o sz off len cap capr b hb hl hc hm hs =>
   simp only [PV.only, List.contains_eq_mem, decide_eq_true_eq] at h
   simp only [PV.ren, PV.renL_eq]
   exact .ref _ sz off len cap capr b ((hι o h).trans hb) hl hc hm hs
  | ref0 o sz off base => simp only [PV.ren, PV.renL_eq]; exact .ref0 _ _ _ base
  | ptr o sz i c b hb =>
   simp only [PV.only, List.contains_eq_mem, decide_eq_true_eq] at h
   simp only [PV.ren, PV.renL_eq]
   exact .ptr _ sz i c b ((hι o h).trans hb)
  | nilS => simp only [PV.ren, PV.renL_eq]; exact .nilS
  | z0 base => simp only [PV.ren, PV.renL_eq]; exact .z0 _
  | unk v => simp only [PV.ren, PV.renL_eq]; exact .unk _
  | und => simp only [PV.ren, PV.renL_eq]; exact .und
  | ab b => simp only [PV.ren, PV.renL_eq]; exact .ab b
  | mp o b hb =>
   simp only [PV.only, List.contains_eq_mem, decide_eq_true_eq] at h
   simp only [PV.ren, PV.renL_eq]
   exact .mp _ b ((hι o h).trans hb)
  | ag cs arr hsz hone hat => simp only [PV.ren, PV.renL_eq]; exact .ag _ arr (by simpa using hsz) hone (list cs arr h hat)
  | tup cs arr hsz hat => simp only [PV.ren, PV.renL_eq]; exact .tup _ arr (by simpa using hsz) (list cs arr h hat)
  | fn f cs arr hsz hat => simp only [PV.ren, PV.renL_eq]; exact .fn f _ arr (by simpa using hsz) (list cs arr h hat)

theorem renOb_in {ι ιc : Nat → Option Nat} {X Xc : Nat → Prop} {g : Nat → Nat} {L : List Nat} (hι : ∀ i ∈ L, ιc i = ι (g i)) (hX : ∀ b, ownX ιc Xc b → ownX ι X b) {i : Nat} {ob : Ob}
  (hi : i ∈ L) (hon : ob.only L = true) (ho : Ob.At w ι X (g i) (ob.ren g)) : Ob.At w ιc Xc i ob := by
 cases ob with
 | gone => exact .gone
 | dead => simp only [Ob.ren] at ho; cases ho with | dead h => exact .dead ((hι i hi).trans h)
 | cells cs =>
  simp only [Ob.ren] at ho
  simp only [Ob.only, List.all_eq_true] at hon
  cases ho with
  | cells _ b c T hb hbb hsz hone hat =>
   exact .cells cs b c T ((hι i hi).trans hb) hbb (by simpa using hsz) hone fun j p v hj hv => ren_in hι hX 4 p v (hon p (List.mem_of_getElem? hj)) (hat j _ v (by rw [List.getElem?_map, hj]; rfl) hv)
 | row sz l =>
  simp only [Ob.ren] at ho
  cases ho with
  | row0 _ h => exact .row0 sz ((hι i hi).trans h)
  | row _ _ b c T hb hbb hsz hcl hone hat => exact .row sz l b c T ((hι i hi).trans hb) hbb hsz hcl hone fun i d j e v hi hj hv => (hat i d j e v hi hj hv).sub hX
 | imap l =>
  simp only [Ob.ren] at ho
  cases ho with
  | imap _ b es clock hb hbb he => exact .imap l b es clock ((hι i hi).trans hb) hbb he

theorem renOb_out {ι ιc : Nat → Option Nat} {X Xc : Nat → Prop} {g : Nat → Nat} {L : List Nat} (hι : ∀ i ∈ L, ι (g i) = ιc i) (hX : ∀ b, ownX ι X b → ownX ιc Xc b) {i : Nat} {ob : Ob}
  (hi : i ∈ L) (hon : ob.only L = true) (ho : Ob.At w ιc Xc i ob) : Ob.At w ι X (g i) (ob.ren g) := by
 cases ho with
 | gone => simp only [Ob.ren]; exact .gone
 | dead h => simp only [Ob.ren]; exact .dead ((hι i hi).trans h)
 | cells cs b c T hb hbb hsz hone hat =>
  simp only [Ob.only, List.all_eq_true] at hon
  simp only [Ob.ren]
  refine .cells _ b c T ((hι i hi).trans hb) hbb (by simpa using hsz) hone fun j p v hj hv => ?_
  rw [List.getElem?_map] at hj
  cases hq : cs[j]? with
  | none => rw [hq] at hj; cases hj
  | some q => rw [hq] at hj; cases hj; exact ren_out hι hX 4 q v (hon q (List.mem_of_getElem? hq)) (hat j q v hq hv)
 | row0 sz h => simp only [Ob.ren]; exact .row0 sz ((hι i hi).trans h)
 | row sz l b c T hb hbb hsz hcl hone hat => simp only [Ob.ren]; exact .row sz l b c T ((hι i hi).trans hb) hbb hsz hcl hone fun i d j e v hi hj hv => (hat i d j e v hi hj hv).sub hX
 | imap l b es clock hb hbb he => simp only [Ob.ren]; exact .imap l b es clock ((hι i hi).trans hb) hbb he

theorem obOf_mem : ∀ (M : List (Nat × Ob)), (M.map (·.1)).Nodup → ∀ q ∈ M, obOf M q.1 = q.2 := by
 intro M
 induction M with
 | nil => intro _ q h; cases h
 | cons p M ih =>
  intro hn q hq
  simp only [List.map_cons, List.nodup_cons] at hn
  rcases List.mem_cons.1 hq with rfl | hq
  ·exact if_pos rfl
  ·have hne : q.1 ≠ p.1 := fun he => hn.1 (by rw [← he]; exact List.mem_map_of_mem hq)
   show upd p.1 p.2 (obOf M) q.1 = _
   rw [upd, if_neg hne]; exact ih hn.2 q hq
theorem obOf_no : ∀ (M : List (Nat × Ob)) (o : Nat), o ∉ M.map (·.1) → obOf M o = .dead := by
 intro M
 induction M with
 | nil => intro o _; rfl
 | cons p M ih =>
  intro o hn
  simp only [List.map_cons, List.mem_cons, not_or] at hn
  show upd p.1 p.2 (obOf M) o = _
  rw [upd, if_neg hn.1]; exact ih o hn.2
theorem wrs_mem : ∀ (M : List (Nat × Ob)) (objs : Nat → Ob), (M.map (·.1)).Nodup → ∀ q ∈ M, wrs M objs q.1 = q.2 := by
 intro M
 induction M with
 | nil => intro _ _ q h; cases h
 | cons p M ih =>
  intro objs hn q hq
  simp only [List.map_cons, List.nodup_cons] at hn
  rcases List.mem_cons.1 hq with rfl | hq
  ·exact if_pos rfl
  ·have hne : q.1 ≠ p.1 := fun he => hn.1 (by rw [← he]; exact List.mem_map_of_mem hq)
   show upd p.1 p.2 (wrs M objs) q.1 = _
   rw [upd, if_neg hne]; exact ih objs hn.2 q hq
theorem wrs_no : ∀ (M : List (Nat × Ob)) (objs : Nat → Ob) (o : Nat), o ∉ M.map (·.1) → wrs M objs o = objs o := by
 intro M
 induction M with
 | nil => intro objs o _; rfl
 | cons p M ih =>
  intro objs o hn
  simp only [List.map_cons, List.mem_cons, not_or] at hn
  show upd p.1 p.2 (wrs M objs) o = _
  rw [upd, if_neg hn.1]; exact ih objs o hn.2

theorem argFit_get {objs : Nat → Ob} {g : Nat → Nat} {fl : Prop} : ∀ (xs ps : List PV), ArgFit objs g fl xs ps → xs.length = ps.length ∧ ∀ (j : Nat) p, ps[j]? = some p → ∃ x, xs[j]? = some x ∧ (x = p.ren g ∨ ∃ d, p = .d d ∧ toD objs 4 x = some d ∧ (x.refs objs 4 = [] ∨ fl)) := by
 intro xs
 induction xs with
 | nil =>
  intro ps h
  cases ps with
  | nil => exact ⟨rfl, by simp⟩
  | cons => exact h.elim
 | cons x xs ih =>
  intro ps h
  cases ps with
  | nil => exact h.elim
  | cons p ps =>
   obtain ⟨h1, h2⟩ := h
   obtain ⟨g1, g2⟩ := ih ps h2
   refine ⟨by simp [g1], fun j q hj => ?_⟩
   cases j with
   | zero => simp at hj; subst hj; exact ⟨x, rfl, h1⟩
   | succ j => obtain ⟨y, hy, hq⟩ := g2 j q (by simpa using hj); exact ⟨y, by simpa using hy, hq⟩

theorem ren_outF {ι ιc : Nat → Option Nat} {X Xc : Nat → Prop} {g : Nat → Nat} {L : List Nat} (hι : ∀ i ∈ L, ι (g i) = ιc i) :
  ∀ (k : Nat) (p : PV) (v : Value), p.only L k = true → p.flatP k = true → PV.At w ιc Xc p v → PV.At w ι X (p.ren g) v := by
 intro k
 induction k with
 | zero => intro p v h; simp [PV.only] at h
 | succ k ih =>
  intro p v h hf hp
  have list : ∀ (cs : List PV) (arr : Array Value), cs.all (PV.only L k) = true → cs.all (PV.flatP k) = true → (∀ (j : Nat) p v, cs[j]? = some p → arr[j]? = some v → PV.At w ιc Xc p v) →
    ∀ (j : Nat) p v, (cs.map (PV.ren g))[j]? = some p → arr[j]? = some v → PV.At w ι X p v := by
   intro cs arr hc hcf hat j p v hj hv
   simp only [List.all_eq_true] at hc hcf
   rw [List.getElem?_map] at hj
   cases hq : cs[j]? with
   | none => rw [hq] at hj; cases hj
   | some q => rw [hq] at hj; cases hj; exact ih q v (hc q (List.mem_of_getElem? hq)) (hcf q (List.mem_of_getElem? hq)) (hat j q v hq hv)
  cases hp with
  | d x v h => simp only [PV.ren]; exact .d _ _ (flat_at 4 x v (by simpa [PV.flatP] using hf) h)
  | ref o sz off len cap capr b hb hl hc hm hs =>
   simp only [PV.only, List.contains_eq_mem, decide_eq_true_eq] at h
   simp only [PV.ren]
   exact .ref _ sz off len cap capr b ((hι o h).trans hb) hl hc hm hs
  | ref0 o sz off base => simp only [PV.ren]; exact .ref0 _ _ _ base
  | ptr o sz i c b hb =>
   simp only [PV.only, List.contains_eq_mem, decide_eq_true_eq] at h
   simp only [PV.ren]
   exact .ptr _ sz i c b ((hι o h).trans hb)
  | nilS => simp only [PV.ren]; exact .nilS
  | z0 base => simp only [PV.ren]; exact .z0 _
  | unk v => simp only [PV.ren]; exact .unk _
  | und => simp only [PV.ren]; exact .und
  | ab b => simp only [PV.ren]; exact .ab b
  | mp o b hb =>
   simp only [PV.only, List.contains_eq_mem, decide_eq_true_eq] at h
   simp only [PV.ren]
   exact .mp _ b ((hι o h).trans hb)
  | ag cs arr hsz hone hat => simp only [PV.ren, PV.renL_eq]; exact .ag _ arr (by simpa using hsz) hone (list cs arr h hf hat)
  | tup cs arr hsz hat => simp only [PV.ren, PV.renL_eq]; exact .tup _ arr (by simpa using hsz) (list cs arr h hf hat)
  | fn f cs arr hsz hat => simp only [PV.ren, PV.renL_eq]; exact .fn f _ arr (by simpa using hsz) (list cs arr h hf hat)

theorem renOb_outF {ι ιc : Nat → Option Nat} {X Xc : Nat → Prop} {g : Nat → Nat} {L : List Nat} (hι : ∀ i ∈ L, ι (g i) = ιc i) {i : Nat} {ob : Ob}
  (hi : i ∈ L) (hon : ob.only L = true) (hf : ob.flatP) (ho : Ob.At w ιc Xc i ob) : Ob.At w ι X (g i) (ob.ren g) := by
 cases ho with
 | gone => simp only [Ob.ren]; exact .gone
 | dead h => simp only [Ob.ren]; exact .dead ((hι i hi).trans h)
 | cells cs b c T hb hbb hsz hone hat =>
  simp only [Ob.only, List.all_eq_true] at hon
  simp only [Ob.flatP, List.all_eq_true] at hf
  simp only [Ob.ren]
  refine .cells _ b c T ((hι i hi).trans hb) hbb (by simpa using hsz) hone fun j p v hj hv => ?_
  rw [List.getElem?_map] at hj
  cases hq : cs[j]? with
  | none => rw [hq] at hj; cases hj
  | some q => rw [hq] at hj; cases hj; exact ren_outF hι 4 q v (hon q (List.mem_of_getElem? hq)) (hf q (List.mem_of_getElem? hq)) (hat j q v hq hv)
 | row0 sz h => simp only [Ob.ren]; exact .row0 sz ((hι i hi).trans h)
 | row sz l b c T hb hbb hsz hcl hone hat =>
  simp only [Ob.flatP] at hf
  simp only [Ob.ren]
  exact .row sz l b c T ((hι i hi).trans hb) hbb hsz hcl hone fun i d j e v hi hj hv => flat_at 4 e v (hf d (List.mem_of_getElem? hi) e (List.mem_of_getElem? hj)) (hat i d j e v hi hj hv)
 | imap l b es clock hb hbb he => simp only [Ob.ren]; exact .imap l b es clock ((hι i hi).trans hb) hbb he

theorem ren_gone {g : Nat → Nat} {ob : Ob} : ob.ren g = .gone ↔ ob = .gone := by cases ob <;> simp [Ob.ren]

theorem callM_wp (hS : Hold B X w0 n S a w ι) {dst : Option Nat} {f : Operand} {as : Array Operand} {tys : Array TypeId} {ty : TypeId} {pos : String} {af : Array Edge} {gd : Option (Nat × Bool)}
  (hd : ∀ t, dst = some t → t < n) (hf : constOk f = true) (hx : ∀ x ∈ as.toList, constOk x = true) {e : Eff} (hc : CallCondM P S.objs (S.ev f) (as.toList.map S.ev) e)
  {next : Act → World → Prop} {Q : Exit → Act → World → Prop} (hk : ∀ a' w' ι', Hold B X w0 n (S.app dst e) a' w' ι' → next a' w') :
  (Oper.mk dst (.call ⟨.value f, as, tys⟩) ty pos af gd).wp P a w next Q := by
 obtain ⟨h, caps, args, M, M', r, g, fl, hfv, hargs, ⟨hcb, hcalls⟩, hids, hao, hMo, hro, hMo', hnd, hobs, h2000, hng, hflat, rfl⟩ := hc
 have hpf := hS.ev hf
 have hfn : ∃ carr : Array Value, a.eval f = .func (.func h) #[] carr ∧ carr.size = caps.length ∧ ∀ (j : Nat) p v, caps[j]? = some p → carr[j]? = some v → PV.At w ι X p v := by
  generalize a.eval f = fv at hpf
  generalize S.ev f = pf at hpf hfv
  unfold caps? at hfv
  split at hfv
  ·cases hfv
   cases hpf with
   | d _ _ h => cases h with | fn _ _ arr hsz h => exact ⟨arr, rfl, by simpa using hsz, fun j p v hj hv => by
                 rw [List.getElem?_map] at hj
                 rename_i caps0
                 cases hq : caps0[j]? with
                 | none => rw [hq] at hj; cases hj
                 | some q => rw [hq] at hj; cases hj; exact .d _ _ (h j q v hq hv)⟩
  ·cases hfv
   cases hpf with
   | fn _ _ arr hsz h => exact ⟨arr, rfl, hsz, h⟩
  ·cases hfv
 obtain ⟨carr, hfe, hcs, hcat⟩ := hfn
 let L := M.map (·.1)
 have hinjg : ∀ i ∈ L, ∀ j ∈ L, g i = g j → i = j := by
  have : ∀ (M : List (Nat × Ob)), (M.map fun q => g q.1).Nodup → ∀ i ∈ M.map (·.1), ∀ j ∈ M.map (·.1), g i = g j → i = j := by
   intro M
   induction M with
   | nil => intro _ i hi; cases hi
   | cons p M ih =>
    intro hn i hi j hj he
    simp only [List.map_cons, List.nodup_cons] at hn
    simp only [List.map_cons, List.mem_cons] at hi hj
    have key : ∀ j ∈ M.map (·.1), g p.1 ≠ g j := by
     intro j hj he
     obtain ⟨q, hq, rfl⟩ := List.mem_map.1 hj
     exact hn.1 (List.mem_map.2 ⟨q, hq, he.symm⟩)
    rcases hi with rfl | hi <;> rcases hj with rfl | hj
    ·rfl
    ·exact absurd he (key j hj)
    ·exact absurd he.symm (key i hi)
    ·exact ih hn.2 i hi j hj he
  exact this M hnd
 have hndL : L.Nodup := by
  have : ∀ (M : List (Nat × Ob)), (M.map fun q => g q.1).Nodup → (M.map (·.1)).Nodup := by
   intro M
   induction M with
   | nil => intro _; exact List.nodup_nil
   | cons p M ih =>
    intro hn
    simp only [List.map_cons, List.nodup_cons] at hn ⊢
    refine ⟨fun hm => hn.1 ?_, ih hn.2⟩
    obtain ⟨q, hq, he⟩ := List.mem_map.1 hm
    exact List.mem_map.2 ⟨q, hq, by rw [he]⟩
  exact this M hnd
 -- the objects that are handed over are known
 have hlive : ∀ i ∈ L, S.objs (g i) ≠ .gone := by
  intro i hi
  obtain ⟨q, hq, rfl⟩ := List.mem_map.1 hi
  rw [hobs q hq]
  exact fun he => hng q hq (ren_gone.1 he)
 -- the callee's names
 let ιc : Nat → Option Nat := fun i => if i ∈ L then ι (g i) else none
 let Xc : Nat → Prop := fun b => ¬ fl ∧ ownX ι X b ∧ ∀ i, ιc i ≠ some b
 have hιc : ∀ i ∈ L, ιc i = ι (g i) := fun i hi => if_pos hi
 have hιcL : ∀ i b, ιc i = some b → i ∈ L ∧ ι (g i) = some b := by
  intro i b hb
  by_cases hi : i ∈ L
  ·exact ⟨hi, by rw [← hιc i hi]; exact hb⟩
  ·simp only [ιc, if_neg hi] at hb; cases hb
 have hXin : ∀ b, ownX ιc Xc b → ownX ι X b := by
  rintro b (hb | ⟨i, hb⟩)
  ·exact hb.2.1
  ·exact .inr ⟨_, (hιcL i b hb).2⟩
 have hexec : (execOp a.eval (Oper.mk dst (.call ⟨.value f, as, tys⟩) ty pos af gd)).run P w = .ok (.enter h (as.map a.eval ++ carr)) w := by
  simp only [execOp, resolve, hfe, Deferred.ofValue, Sem.run_bind, Sem.run_pure, Result.andThen_ok, invoke, Array.empty_append, callFunc_enter hcb]
 obtain ⟨hlen, hget⟩ := argFit_get _ _ hargs
 unfold Oper.wp
 rw [hexec, Oper.upon_enter]
 refine Calls.mono (hcalls w ιc Xc _ (fun b hb => ⟨hS.ownlt hb.2.1, hb.2.2⟩) (fun o o' b _ _ h1 h2 => ?_) (fun o b hb => (hS.free _ b (hιcL o b hb).2).2) ?_ ?_ ?_ ?_) ?_
 ·obtain ⟨g1, g2⟩ := hιcL o b h1
  obtain ⟨g3, g4⟩ := hιcL o' b h2
  exact hinjg o g1 o' g3 (hS.inj _ _ b (hlive o g1) (hlive o' g3) g2 g4)
 ·simp at hlen ⊢; omega
 ·intro j p v hj hv
  simp only [List.all_eq_true] at hao
  obtain ⟨x0, hj2, hfit⟩ := hget j p hj
  have hmem0 : x0 ∈ as.toList.map S.ev ++ caps := List.mem_of_getElem? hj2
  suffices hx0 : PV.At w ι X x0 v by
   rcases hfit with rfl | ⟨d, rfl, h1, h2⟩
   ·exact ren_in hιc hXin 4 p v (hao p (List.mem_of_getElem? hj)) hx0
   ·by_cases hfl : fl
    ·refine .d _ _ (toD_viewY hS hXin 4 x0 v d h1 (fun o ho hlo b hb hY => ?_) hx0)
     rcases hY with hY | ⟨i, hY⟩
     ·exact hY.1 hfl
     ·obtain ⟨g1, g2⟩ := hιcL i b hY
      have := hS.inj _ _ b hlo (hlive i g1) hb g2
      obtain ⟨q, hq, rfl⟩ := List.mem_map.1 g1
      exact (hflat hfl).2 x0 hmem0 o ho (List.mem_map.2 ⟨q, hq, this.symm⟩)
    ·rcases h2 with h2 | h2
     ·exact .d _ _ ((toD_at 4 x0 v d h1 h2 hx0).sub hXin)
     ·exact absurd h2 hfl
  rw [List.getElem?_append] at hj2
  rw [Array.getElem?_append] at hv
  simp only [Array.size_map, List.length_map, Array.length_toList] at hv hj2
  split at hj2
  ·rename_i hlt
   rw [if_pos hlt] at hv
   rw [Array.getElem?_map] at hv
   rw [List.getElem?_map] at hj2
   simp only [Array.getElem?_toList] at hj2
   cases hq : as[j]? with
   | none => rw [hq] at hv; cases hv
   | some x =>
    rw [hq] at hv hj2
    simp only [Option.map_some, Option.some.injEq] at hv hj2
    rw [← hj2, ← hv]
    exact hS.ev (hx x (by simpa using Array.mem_of_getElem? hq))
  ·rename_i hlt
   rw [if_neg hlt] at hv
   exact hcat _ _ v hj2 hv
 ·intro o
  by_cases ho : o ∈ L
  ·obtain ⟨q, hq, rfl⟩ := List.mem_map.1 ho
   rw [obOf_mem M hndL q hq]
   simp only [List.all_eq_true] at hMo
   refine renOb_in hιc hXin ho (hMo q hq) ?_
   rw [← hobs q hq]; exact hS.objs _
  ·rw [obOf_no M o ho]
   exact .dead (if_neg ho)
 ·intro o b hb; exact (hιcL o b hb).1
 rintro e w' ⟨v, ιc', rfl, hr, hobs', hids', hinj', hfree', hos, htape, hout, hsize, hkeep, hstay⟩
 have hL' : ∀ i b, ιc' i = some b → i ∈ L := fun i b hb => by show i ∈ M.map (·.1); rw [← hids]; exact hids' i b hb
 -- the caller's names, afterwards
 let inv : Nat → Option Nat := fun o => L.find? fun i => g i == o
 have hinv : ∀ i ∈ L, inv (g i) = some i := by
  intro i hi
  simp only [inv]
  cases hq : L.find? fun j => g j == g i with
  | none =>
   have := List.find?_eq_none.1 hq i hi
   simp at this
  | some j =>
   have h1 := List.find?_some hq
   have h2 := List.mem_of_find?_eq_some hq
   simp only [beq_iff_eq] at h1
   rw [hinjg j h2 i hi h1]
 have hinv2 : ∀ o i, inv o = some i → i ∈ L ∧ g i = o := by
  intro o i h
  exact ⟨List.mem_of_find?_eq_some h, by simpa using List.find?_some h⟩
 let ι' : Nat → Option Nat := fun o => match inv o with | some i => ιc' i | none => ι o
 have hι'in : ∀ i ∈ L, ι' (g i) = ιc' i := fun i hi => by simp only [ι', hinv i hi]
 have hι'out : ∀ o, inv o = none → ι' o = ι o := fun o ho => by simp only [ι', ho]
 have hXout : ¬ fl → ∀ b, ownX ι' X b → ownX ιc' Xc b := by
  intro hfl b hb
  by_cases hex : ∃ i, ιc i = some b
  ·obtain ⟨i, hi⟩ := hex
   exact .inr ⟨i, (hstay i b hi).1⟩
  ·have hno : ∀ i, ιc i ≠ some b := fun i hi => hex ⟨i, hi⟩
   rcases hb with hb | ⟨o, hb⟩
   ·exact .inl ⟨hfl, .inl hb, hno⟩
   ·cases ho : inv o with
    | none => rw [hι'out o ho] at hb; exact .inl ⟨hfl, .inr ⟨o, hb⟩, hno⟩
    | some i =>
     obtain ⟨g1, g2⟩ := hinv2 o i ho
     subst g2
     rw [hι'in i g1] at hb
     exact .inr ⟨i, hb⟩
 have hkeep2 : ∀ b, b < w.heap.size → (∀ i ∈ L, ι (g i) ≠ some b) → w'.heap[b]? = w.heap[b]? := fun b hb hn => hkeep b hb (fun i hi => hn i (hιcL i b hi).1 (hιcL i b hi).2)
 have h1 : ∀ o b, ι o = some b → ι' o = some b ∧ bsz w' b = bsz w b := by
  intro o b hb
  refine ⟨?_, ?_⟩
  ·cases ho : inv o with
   | none => rw [hι'out o ho]; exact hb
   | some i =>
    obtain ⟨g1, g2⟩ := hinv2 o i ho
    subst g2
    rw [hι'in i g1]
    exact (hstay i b (by rw [hιc i g1]; exact hb)).1
  ·by_cases hex : ∃ i, ιc i = some b
   ·obtain ⟨i, hi⟩ := hex
    exact (hstay i b hi).2
   ·simp only [bsz, hkeep b (hS.free o b hb).2 (fun i hi => hex ⟨i, hi⟩)]
 have h2 : ∀ b, ownX ι' X b → ownX ι X b ∨ w.heap.size ≤ b := by
  rintro b (hb | ⟨o, hb⟩)
  ·exact .inl (.inl hb)
  ·cases ho : inv o with
   | none => rw [hι'out o ho] at hb; exact .inl (.inr ⟨o, hb⟩)
   | some i =>
    obtain ⟨g1, g2⟩ := hinv2 o i ho
    subst g2
    rw [hι'in i g1] at hb
    rcases (hfree' i b hb).2.1 with ⟨i', h⟩ | h
    ·exact .inl (.inr ⟨_, (hιcL i' b h).2⟩)
    ·exact .inr h
 have h3 : ∀ b, b < w.heap.size → ¬ ownX ι X b → w'.heap[b]? = w.heap[b]? := fun b hb hn => hkeep2 b hb (fun i _ h => hn (.inr ⟨_, h⟩))
 have hnd' : ((renM g M').map (·.1)).Nodup := by
  have e1 : (renM g M').map (·.1) = (M'.map (·.1)).map g := by simp [renM]
  have e2 : (M.map fun q => g q.1) = (M.map (·.1)).map g := by simp
  rw [e1, hids, ← e2]; exact hnd
 have hnot : ∀ o, inv o = none → o ∉ (renM g M').map (·.1) := by
  intro o ho hm
  simp only [renM, List.map_map, List.mem_map, Function.comp] at hm
  obtain ⟨q, hq, rfl⟩ := hm
  have : q.1 ∈ L := by show q.1 ∈ M.map (·.1); rw [← hids]; exact List.mem_map_of_mem hq
  rw [hinv _ this] at ho; cases ho
 have hat : ∀ i ∈ L, wrs (renM g M') S.objs (g i) = (obOf M' i).ren g := by
  intro i hi
  have g3 : i ∈ M'.map (·.1) := by rw [hids]; exact hi
  obtain ⟨q, hq, rfl⟩ := List.mem_map.1 g3
  rw [obOf_mem M' (by rw [hids]; exact hndL) q hq]
  exact wrs_mem (renM g M') S.objs hnd' (g q.1, q.2.ren g) (List.mem_map.2 ⟨q, hq, rfl⟩)
 have hbase : Hold B X w0 n { env := S.env, objs := wrs (renM g M') S.objs } a w' ι' := by
  refine ⟨hS.size, hS.defers, ⟨hos.trans hS.frame.os, htape.trans hS.frame.tape, hout.trans hS.frame.output, Nat.le_trans hS.frame.size hsize, fun b hb => ?_⟩, hS.hB, hS.hXB, ?_, ?_, fun t => (hS.env t).move h1 h2 h3, ?_, ?_⟩
  ·rw [← hS.frame.keep b hb]
   exact hkeep2 b (Nat.lt_of_lt_of_le (hS.hB b hb) hS.frame.size) (fun i _ h => (hS.free _ b h).1 hb)
  ·have mixed : ∀ o i b, inv o = none → S.objs o ≠ .gone → ι o = some b → i ∈ L → ιc' i = some b → False := by
    intro o i b ho hg e1 g1 e2
    rcases (hfree' i b e2).2.1 with ⟨i', h⟩ | h
    ·obtain ⟨g3, g4⟩ := hιcL i' b h
     rw [hS.inj _ _ b hg (hlive i' g3) e1 g4, hinv i' g3] at ho; cases ho
    ·have := (hS.free o b e1).2; omega
   intro o o' b f1 f2 e1 e2
   simp only at f1 f2
   cases ho : inv o with
   | none =>
    rw [hι'out o ho] at e1
    rw [wrs_no _ _ o (hnot o ho)] at f1
    cases ho' : inv o' with
    | none =>
     rw [hι'out o' ho'] at e2
     rw [wrs_no _ _ o' (hnot o' ho')] at f2
     exact hS.inj _ _ b f1 f2 e1 e2
    | some i =>
     obtain ⟨g1, g2⟩ := hinv2 o' i ho'
     subst g2
     rw [hι'in i g1] at e2
     exact (mixed o i b ho f1 e1 g1 e2).elim
   | some i =>
    obtain ⟨g1, g2⟩ := hinv2 o i ho
    subst g2
    rw [hι'in i g1] at e1
    cases ho' : inv o' with
    | none =>
     rw [hι'out o' ho'] at e2
     rw [wrs_no _ _ o' (hnot o' ho')] at f2
     exact (mixed o' i b ho' f2 e2 g1 e1).elim
    | some i' =>
     obtain ⟨g3, g4⟩ := hinv2 o' i' ho'
     subst g4
     rw [hι'in i' g3] at e2
     rw [hat i g1] at f1
     rw [hat i' g3] at f2
     rw [hinj' i i' b (fun he => f1 (ren_gone.2 he)) (fun he => f2 (ren_gone.2 he)) e1 e2]
  ·intro o b hb
   cases ho : inv o with
   | none => rw [hι'out o ho] at hb; exact ⟨(hS.free o b hb).1, Nat.lt_of_lt_of_le (hS.free o b hb).2 hsize⟩
   | some i =>
    obtain ⟨g1, g2⟩ := hinv2 o i ho
    subst g2
    rw [hι'in i g1] at hb
    obtain ⟨f1, f2, f3⟩ := hfree' i b hb
    refine ⟨fun hB => ?_, f3⟩
    rcases f2 with ⟨i', h⟩ | h
    ·exact (hS.free _ b (hιcL i' b h).2).1 hB
    ·have := hS.hB b hB; have := hS.frame.size; omega
  ·intro o
   simp only
   cases ho : inv o with
   | none =>
    rw [wrs_no _ _ o (hnot o ho)]
    exact (hS.objs o).move (hι'out o ho) (fun hg b hb => hkeep2 b (hS.free o b hb).2 (fun i hi hb' => by rw [hS.inj _ _ b hg (hlive i hi) hb hb', hinv i hi] at ho; cases ho)) h1 h2 h3
   | some i =>
    obtain ⟨g1, g2⟩ := hinv2 o i ho
    subst g2
    rw [hat i g1]
    have g3 : i ∈ M'.map (·.1) := by rw [hids]; exact g1
    obtain ⟨q, hq, rfl⟩ := List.mem_map.1 g3
    simp only [List.all_eq_true] at hMo'
    have := hobs' q.1
    rw [obOf_mem M' (by rw [hids]; exact hndL) q hq] at this ⊢
    by_cases hfl : fl
    ·exact renOb_outF hι'in g1 (hMo' q hq) ((hflat hfl).1.2.2 q hq) this
    ·exact renOb_out hι'in (hXout hfl) g1 (hMo' q hq) this
  ·intro o b hb
   obtain ⟨g1, g2, g3⟩ := hS.stay o b hb
   obtain ⟨g4, g5⟩ := h1 o b g2
   exact ⟨g1, g4, g5.trans g3⟩
 refine hk (a.put dst v) w' ι' ?_
 have hrv : PV.At w' ι' X (r.ren g) v := by
  by_cases hfl : fl
  ·exact ren_outF hι'in 4 r v hro (hflat hfl).1.1 hr
  ·exact ren_out hι'in (hXout hfl) 4 r v hro hr
 have := hbase.put (dst := dst) (x := r.ren g) (v := v) hd hrv
 cases dst <;> exact this

theorem does1_wp (hS : Hold B X w0 n S a w ι) {o : Oper} (hpl : Oper.plain n o = true) {e : Eff} (h : Does1 P own o S e) {next : Act → World → Prop} {Q : Exit → Act → World → Prop}
  (hk : ∀ a' w' ι', Hold B X w0 n (S.app o.dst e) a' w' ι' → next a' w') : o.wp P a w next Q := by
 obtain ⟨dst, op, ty, pos, af, gd⟩ := o
 have plain : (sem P own S.ev S.objs dst op).1 → e = (sem P own S.ev S.objs dst op).2 → (Oper.mk dst op ty pos af gd).wp P a w next Q := by
  intro h1 h2
  subst h2
  exact (sim_sem hS (Oper.mk dst op ty pos af gd) hpl h1).wp hk
 cases op with
 | call c =>
  obtain ⟨cal, as, tys⟩ := c
  cases cal with
  | value f =>
   simp only [Oper.plain, Bool.and_eq_true, List.all_eq_true] at hpl
   rcases h.symm with hc | ⟨r, hc, rfl⟩
   ·exact callM_wp hS (fun t ht => by have := hpl.1.2; subst ht; simpa using this) (hpl.1.1 f (by simp [Op.operands, Call.operands])) (fun x hx => hpl.1.1 x (by simp [Op.operands, Call.operands]; right; simpa using hx)) hc hk
   refine call_wp hS (fun t ht => by have := hpl.1.2; simp only [ht] at this; simpa using this) (hpl.1.1 f (by simp [Op.operands, Call.operands])) (fun x hx => hpl.1.1 x (by simp [Op.operands, Call.operands]; right; simpa using hx)) hc ?_
   intro a' w' ι' h'
   refine hk a' w' ι' ?_
   rw [app_rd]; exact h'
  | builtin b => exact plain h.1 h.2
  | invoke r m => exact plain h.1 h.2
 | _ => exact plain h.1 h.2

theorem does_wp (hS : Hold B X w0 n S a w ι) {i : Nat} {o : Oper} (hi : ops[i]? = some o) (hpl : Oper.plain n o = true) {e : Eff} (h : Does P own ops.toList o S e) {next : Act → World → Prop} {Q : Exit → Act → World → Prop}
  (hk : ∀ a' w' ι', Hold B X w0 n (S.app o.dst e) a' w' ι' → next a' w') : Go.wpOp P ops Q i next a w := by
 unfold Go.wpOp
 rw [hi]
 simp only
 unfold Does at h
 cases hg : o.guard with
 | none =>
  rw [hg] at h
  simp only at h
  simp only [Region.wanted, hg, if_true]
  exact .inl (does1_wp hS hpl h hk)
 | some q =>
  obtain ⟨j, want⟩ := q
  rw [hg] at h
  obtain ⟨b, hb, h⟩ := h
  have hy : yielded ops a.tmps j = b := by
   unfold grd at hb
   unfold yielded
   simp only [Array.getElem?_toList] at hb
   cases ht : (ops[j]?).bind (·.dst) with
   | none => rw [ht] at hb; cases hb
   | some t =>
    rw [ht] at hb
    simp only at hb
    have he := hS.env t
    simp only [Option.bind_some]
    split at hb
    ·rename_i b' heq
     cases hb
     rw [heq] at he
     have hv := d_bool he
     rw [Array.getD_eq_getD_getElem?] at hv
     cases hq : a.tmps[t]? with
     | none => rw [hq] at hv; cases hv
     | some v => rw [hq] at hv; simp at hv; subst hv; rfl
    ·rename_i heq
     cases hb
     rw [heq] at he
     generalize hv : a.tmps.getD t undef = v at he
     cases he
     rw [Array.getD_eq_getD_getElem?] at hv
     cases hq : a.tmps[t]? with
     | none => rfl
     | some v => rw [hq] at hv; simp at hv; subst hv; rfl
    ·cases hb
  simp only [Region.wanted, hg, hy]
  by_cases hw : b = some want
  ·rw [if_pos hw] at h
   subst hw
   simp only [beq_self_eq_true, if_true]
   exact .inl (does1_wp hS hpl h hk)
  ·rw [if_neg hw] at h
   subst h
   have : (b == some want) = false := by simpa using hw
   rw [this]
   simp only [Bool.false_eq_true, if_false]
   refine hk _ _ ι ?_
   rw [app_v]
   simp only [Oper.plain, Bool.and_eq_true] at hpl
   exact hS.put (fun t ht => by have := hpl.1.2; simp only [ht] at this; simpa using this) .und
end
end Go.PS
