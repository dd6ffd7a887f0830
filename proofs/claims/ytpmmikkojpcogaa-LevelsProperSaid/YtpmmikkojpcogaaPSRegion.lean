/- A region, in whatever order the model draws, does what its run in the text's order says. -/
import Derived.Test.YtpmmikkojpcogaaPSOps10
namespace Go.PS
open Go

section
variable {P : Program} {own : Nat → Bool} {objs objs' : Nat → Ob}

/-- What an operation does, as an effect. -/
def Does1 (P : Program) (own : Nat → Bool) (o : Oper) (S : St) (e : Eff) : Prop :=
  match o.op with
  | .call { callee := .value f, args, .. } => (∃ r, CallCond P S.objs (S.ev f) (args.toList.map S.ev) r ∧ e = { val := .d r, rd := (args.toList.map S.ev).flatMap (PV.refs S.objs 4) }) ∨
      CallCondM P S.objs (S.ev f) (args.toList.map S.ev) e
  | op => (sem P own S.ev S.objs o.dst op).1 ∧ e = (sem P own S.ev S.objs o.dst op).2

def Does (P : Program) (own : Nat → Bool) (all : List Oper) (o : Oper) (S : St) (e : Eff) : Prop :=
  match o.guard with
  | none => Does1 P own o S e
  | some (j, want) => ∃ g, grd all S j = some g ∧ if g = some want then Does1 P own o S e else e = { val := .und }

def Runs (P : Program) (own : Nat → Bool) (all : List Oper) : List Oper → St → St → List Foot → Prop
  | [], S, S', fs => S' = S ∧ fs = []
  | o :: rest, S, S', fs => ∃ e fs', Does P own all o S e ∧ Runs P own all rest (S.app o.dst e) S' fs' ∧ fs = e.foot :: fs'

theorem wpOp_does {o : Oper} {S : St} {fs : List Foot} {k : St → List Foot → Prop} (h : wpOp P own o S fs k) : ∃ e, Does1 P own o S e ∧ k (S.app o.dst e) (e.foot :: fs) := by
  obtain ⟨dst, op, ty, pos, af, gd⟩ := o
  cases op with
  | call c =>
    obtain ⟨cal, as, tys⟩ := c
    cases cal with
    | value f =>
      rcases h with ⟨r, hc, hk⟩ | ⟨e, hc, hk⟩
      · refine ⟨_, .inl ⟨r, hc, rfl⟩, ?_⟩
        rw [app_rd]; exact hk
      · exact ⟨_, .inr hc, hk⟩
    | builtin b => exact ⟨_, ⟨h.1, rfl⟩, h.2⟩
    | invoke r m => exact h.1.elim
  | _ => exact ⟨_, ⟨h.1, rfl⟩, h.2⟩

theorem runs_of_wpRun {all : List Oper} : ∀ (ops : List Oper) (S : St) (fs : List Foot) (K : St → List Foot → Prop), wpRun P own all ops S fs K → ∃ S' fs', Runs P own all ops S S' fs' ∧ K S' (fs'.reverse ++ fs) := by
  intro ops
  induction ops with
  | nil => intro S fs K h; exact ⟨S, [], ⟨rfl, rfl⟩, h⟩
  | cons o rest ih =>
    intro S fs K h
    have one : wpOp P own o S fs (fun S' fs' => wpRun P own all rest S' fs' K) → ∃ e S' fs', Does1 P own o S e ∧ Runs P own all rest (S.app o.dst e) S' fs' ∧ K S' (fs'.reverse ++ (e.foot :: fs)) := by
      intro h
      obtain ⟨e, h1, h2⟩ := wpOp_does h
      obtain ⟨S', fs', h3, h4⟩ := ih _ _ _ h2
      exact ⟨e, S', fs', h1, h3, h4⟩
    simp only [wpRun] at h
    cases hg : o.guard with
    | none =>
      rw [hg] at h
      obtain ⟨e, S', fs', h1, h2, h3⟩ := one h
      exact ⟨S', e.foot :: fs', ⟨e, fs', by simp only [Does, hg]; exact h1, h2, rfl⟩, by simpa using h3⟩
    | some q =>
      obtain ⟨j, want⟩ := q
      rw [hg] at h
      simp only at h
      cases hb : grd all S j with
      | none => rw [hb] at h; exact h.elim
      | some b =>
        rw [hb] at h
        simp only at h
        split at h
        · rename_i hw
          obtain ⟨e, S', fs', h1, h2, h3⟩ := one h
          exact ⟨S', e.foot :: fs', ⟨e, fs', by simp only [Does, hg]; exact ⟨b, hb, by rw [if_pos hw]; exact h1⟩, h2, rfl⟩, by simpa using h3⟩
        · rename_i hw
          obtain ⟨S', fs', h1, h2⟩ := ih _ _ _ h
          exact ⟨S', ([], []) :: fs', ⟨{ val := .und }, fs', by simp only [Does, hg]; exact ⟨b, hb, by rw [if_neg hw]; trivial⟩, by rw [app_v]; exact h1, rfl⟩, by simpa using h2⟩

/-! ### What an operation looks at. -/

theorem toD_congr : ∀ (k : Nat) (p : PV), (∀ o ∈ p.refs objs k, objs' o = objs o) → toD objs' k p = toD objs k p ∧ p.refs objs' k = p.refs objs k := by
  intro k
  induction k with
  | zero => intro p _; exact ⟨rfl, rfl⟩
  | succ k ih =>
    intro p h
    have list : ∀ (cs : List PV), (∀ o ∈ cs.flatMap (PV.refs objs k), objs' o = objs o) → cs.mapM (toD objs' k) = cs.mapM (toD objs k) ∧ cs.flatMap (PV.refs objs' k) = cs.flatMap (PV.refs objs k) := by
      intro cs
      induction cs with
      | nil => intro _; exact ⟨rfl, rfl⟩
      | cons c cs ihc =>
        intro hc
        simp only [List.flatMap_cons, List.mem_append] at hc
        obtain ⟨h1, h2⟩ := ih c (fun o ho => hc o (.inl ho))
        obtain ⟨h3, h4⟩ := ihc (fun o ho => hc o (.inr ho))
        simp only [List.mapM_cons, List.flatMap_cons, h1, h2, h3, h4, and_self]
    cases p with
    | d x => exact ⟨rfl, rfl⟩
    | nilS => exact ⟨rfl, rfl⟩
    | z0 => exact ⟨rfl, rfl⟩
    | unk => exact ⟨rfl, rfl⟩
    | und => exact ⟨rfl, rfl⟩
    | ab => exact ⟨rfl, rfl⟩
    | ref o sz off len cap =>
      have hm : o ∈ (PV.ref o sz off len cap).refs objs (k + 1) := by simp only [PV.refs]; split <;> simp
      have ho := h o hm
      simp only [PV.refs, toD] at h ⊢
      rw [ho]
      cases hob : objs o with
      | dead => exact ⟨rfl, rfl⟩
      | gone => exact ⟨rfl, rfl⟩
      | row _ _ => exact ⟨rfl, rfl⟩
      | cells cs =>
        rw [hob] at h
        simp only at h ⊢
        obtain ⟨h1, h2⟩ := list ((cs.drop off).take len) (fun o ho => h o (List.mem_cons_of_mem _ ho))
        rw [h1, h2]; exact ⟨rfl, rfl⟩
    | ptr o sz i c =>
      have hm : o ∈ (PV.ptr o sz i c).refs objs (k + 1) := by simp only [PV.refs]; split <;> simp
      have ho := h o hm
      simp only [PV.refs, toD] at h ⊢
      rw [ho]
      cases hob : objs o with
      | dead => exact ⟨rfl, rfl⟩
      | gone => exact ⟨rfl, rfl⟩
      | row _ _ => exact ⟨rfl, rfl⟩
      | cells cs =>
        rw [hob] at h
        simp only at h ⊢
        obtain ⟨h1, h2⟩ := list cs (fun o ho => h o (List.mem_cons_of_mem _ ho))
        rw [h1, h2]; exact ⟨rfl, rfl⟩
    | ag cs => obtain ⟨h1, h2⟩ := list cs (by simpa [PV.refs] using h); simp only [toD, PV.refs, h1, h2, and_self]
    | tup cs => obtain ⟨h1, h2⟩ := list cs (by simpa [PV.refs] using h); simp only [toD, PV.refs, h1, h2, and_self]
    | fn f cs => obtain ⟨h1, h2⟩ := list cs (by simpa [PV.refs] using h); simp only [toD, PV.refs, h1, h2, and_self]

theorem toDs_congr (k : Nat) : ∀ (cs : List PV), (∀ o ∈ cs.flatMap (PV.refs objs k), objs' o = objs o) → cs.mapM (toD objs' k) = cs.mapM (toD objs k) ∧ cs.flatMap (PV.refs objs' k) = cs.flatMap (PV.refs objs k) := by
  intro cs
  induction cs with
  | nil => intro _; exact ⟨rfl, rfl⟩
  | cons c cs ihc =>
    intro hc
    simp only [List.flatMap_cons, List.mem_append] at hc
    obtain ⟨h1, h2⟩ := toD_congr k c (fun o ho => hc o (.inl ho))
    obtain ⟨h3, h4⟩ := ihc (fun o ho => hc o (.inr ho))
    simp only [List.mapM_cons, List.flatMap_cons, h1, h2, h3, h4, and_self]

/-- Two ways to look agree on what an effect touches. -/
def Agree (e : Eff) (objs objs' : Nat → Ob) : Prop := (∀ o ∈ e.rd, objs' o = objs o) ∧ ∀ q ∈ e.wr, objs' q.1 = objs q.1

theorem semLoad_congr {ty : TyI} {p : PV} (ha : Agree (semLoad ty objs p).2 objs objs') : semLoad ty objs' p = semLoad ty objs p := by
  cases p with
  | ptr o sz i c =>
    have : objs' o = objs o := ha.1 o (by simp [semLoad])
    simp only [semLoad, this]
  | d x => cases x <;> rfl
  | _ => rfl

theorem semStore_congr {ty : TyI} {p : PV} {x : Option (List PV)} (ha : Agree (semStore ty objs p x).2 objs objs') : semStore ty objs' p x = semStore ty objs p x := by
  cases x with
  | none => cases p <;> rfl
  | some vs =>
    cases p with
    | ptr o sz i c =>
      have : objs' o = objs o := ha.2 (o, _) (by simp only [semStore, List.mem_singleton]; rfl)
      simp only [semStore, this]
    | _ => rfl

theorem semAppend_congr {dst : Option Nat} {st xt ety : TyI} {s x : PV} (hc : (semAppend objs dst st xt ety s x).1) (ha : Agree (semAppend objs dst st xt ety s x).2 objs objs') :
    semAppend objs' dst st xt ety s x = semAppend objs dst st xt ety s x := by
  obtain ⟨ys, t', hys, hdst, hdead, _, _, _, _, _, hcase⟩ := semAppend_cond hc
  have hrd : ∀ o ∈ srcR x, objs' o = objs o := fun o ho => by
    rcases hcase with ⟨_, _, _, _, _, _, _, _, _, _, heq⟩ | ⟨_, _, heq⟩ <;>
    · rw [heq] at ha; exact ha.1 o ho
  have hx : srcD objs' x = srcD objs x := by
    cases x with
    | ref o sz off len cap => simp only [srcD, hrd o (by simp [srcR])]
    | d x => cases x <;> rfl
    | _ => rfl
  have ht : objs' t' = objs t' := by
    rcases hcase with ⟨_, _, _, _, _, _, _, _, _, _, heq⟩ | ⟨_, _, heq⟩ <;>
    · rw [heq] at ha; exact ha.2 (t', _) (by simp only [List.mem_cons]; exact .inl rfl)
  subst hdst
  rcases hcase with ⟨o, sz, len, cap, l, rfl, hob, _, _, _, heq⟩ | ⟨hs, _, heq⟩
  · have ho : objs' o = objs o := by rw [heq] at ha; exact ha.2 (o, .gone) (by simp)
    unfold semAppend
    rw [hx, hys]
    simp only [ho, ht]
  · unfold semAppend
    rw [hx, hys]
    rcases hs with rfl | rfl <;> simp only [ht]

theorem semBuiltin_congr {dst : Option Nat} {b : Builtin} {tys : List TypeId} {xs : List PV} (hc : (semBuiltin P objs dst b tys xs).1) (ha : Agree (semBuiltin P objs dst b tys xs).2 objs objs') :
    semBuiltin P objs' dst b tys xs = semBuiltin P objs dst b tys xs := by
  unfold semBuiltin at hc ha ⊢
  split at hc <;> first | rfl | exact semAppend_congr hc ha | exact hc.elim

theorem sem_congr {ev ev' : Operand → PV} {dst : Option Nat} {op : Op} (hev : ∀ x ∈ op.operands, ev' x = ev x) (hc : (sem P own ev objs dst op).1) (ha : Agree (sem P own ev objs dst op).2 objs objs') :
    sem P own ev' objs' dst op = sem P own ev objs dst op := by
  cases op with
  | move x => simp only [sem, hev x (by simp [Op.operands])]
  | assign x => simp only [sem, hev x (by simp [Op.operands])]
  | pick c a b => simp only [sem, hev c (by simp [Op.operands]), hev a (by simp [Op.operands]), hev b (by simp [Op.operands])]
  | alloc T =>
    simp only [sem, semAlloc] at hc ha ⊢
    cases dst with
    | none => rfl
    | some t => simp only at ha ⊢; rw [ha.2 (t, _) (by simp only [List.mem_singleton]; rfl)]
  | box T x =>
    simp only [sem, semBox, hev x (by simp [Op.operands])] at hc ha ⊢
    cases dst with
    | none => rfl
    | some t =>
      cases hcs : (ev x).cells? with
      | none => rfl
      | some cs => rw [hcs] at ha; simp only at ha ⊢; rw [ha.2 (t, _) (by simp only [List.mem_singleton]; rfl)]
  | build T ps =>
    simp only [sem]
    have : (ps.toList.map fun p => (p.1, ev' p.2)) = ps.toList.map fun p => (p.1, ev p.2) := List.map_congr_left fun p hp => by
      rw [hev p.2 (by simp only [Op.operands, List.mem_toArray, List.mem_map]; exact ⟨p, hp, rfl⟩)]
    rw [this]
  | buildSlice T n ps =>
    have hps : (ps.toList.map fun p => (p.1, ev' p.2)) = ps.toList.map fun p => (p.1, ev p.2) := List.map_congr_left fun p hp => by
      rw [hev p.2 (by simp only [Op.operands, List.mem_toArray, List.mem_map]; exact ⟨p, hp, rfl⟩)]
    simp only [sem, hps] at hc ha ⊢
    generalize ownAt own dst = ow at hc ha ⊢
    generalize ps.toList.map (fun p => (p.1, ev p.2)) = qs at hc ha ⊢
    unfold semBuildSlice at hc ha ⊢
    generalize hl : elemsF (tyi P (tyi P T).elem).size (List.replicate n (.ofCells (tyi P (tyi P T).elem).agg ((tyi P (tyi P T).elem).zero.map cellD))) (qs.map fun p => (p.1, toD objs 4 p.2)) = res at hc ha
    have hrefs : (qs.map (·.2)).flatMap (PV.refs objs 4) = [] := by
      cases res with
      | none => exact hc.elim
      | some l =>
        cases ow with
        | true => cases dst with
                  | none => exact hc.elim
                  | some t => exact hc.2.2.2.1
        | false => exact hc.2.2.2
    have hq : ∀ p ∈ qs, toD objs' 4 p.2 = toD objs 4 p.2 ∧ p.2.refs objs' 4 = p.2.refs objs 4 := fun p hp => by
      refine toD_congr 4 p.2 (fun o ho => ?_)
      rw [List.flatMap_eq_nil_iff] at hrefs
      rw [hrefs p.2 (List.mem_map_of_mem hp)] at ho
      cases ho
    have h1 : (qs.map fun p => (p.1, toD objs' 4 p.2)) = qs.map fun p => (p.1, toD objs 4 p.2) := List.map_congr_left fun p hp => by rw [(hq p hp).1]
    have h2 : (qs.map (·.2)).flatMap (PV.refs objs' 4) = (qs.map (·.2)).flatMap (PV.refs objs 4) := (toDs_congr 4 _ (fun o ho => by rw [hrefs] at ho; cases ho)).2
    rw [h1, hl, h2]
    cases res with
    | none => rfl
    | some l =>
      cases ow with
      | true => cases dst with
                | none => rfl
                | some t => simp only [if_true] at ha ⊢; rw [ha.2 (t, _) (by simp only [List.mem_singleton]; rfl)]
      | false => rfl
  | load T x =>
    simp only [sem, hev x (by simp [Op.operands])] at hc ha ⊢
    exact semLoad_congr ha
  | store T x y =>
    simp only [sem, hev x (by simp [Op.operands]), hev y (by simp [Op.operands])] at hc ha ⊢
    exact semStore_congr ha
  | fieldAddr T x f => simp only [sem, hev x (by simp [Op.operands])]
  | indexAddr T x i => simp only [sem, hev x (by simp [Op.operands]), hev i (by simp [Op.operands])]
  | binOp op T x y T' => simp only [sem, hev x (by simp [Op.operands]), hev y (by simp [Op.operands])]
  | unOp op T x => simp only [sem, hev x (by simp [Op.operands])]
  | extract x i => simp only [sem, hev x (by simp [Op.operands])]
  | nilCheck x => simp only [sem, hev x (by simp [Op.operands])]
  | slice T x lo hi mx =>
    have e1 : lo.map ev' = lo.map ev := by cases lo with | none => rfl | some y => simp only [Option.map_some, hev y (by simp [Op.operands])]
    have e2 : hi.map ev' = hi.map ev := by cases hi with | none => rfl | some y => simp only [Option.map_some, hev y (by simp [Op.operands])]
    have e3 : mx.map ev' = mx.map ev := by cases mx with | none => rfl | some y => simp only [Option.map_some, hev y (by simp [Op.operands])]
    simp only [sem, hev x (by simp [Op.operands]), e1, e2, e3]
  | makeSlice T l c =>
    simp only [sem, hev l (by simp [Op.operands]), hev c (by simp [Op.operands])] at hc ha ⊢
    unfold semMakeSlice at hc ha ⊢
    split at hc
    · rename_i t n m h1 h2
      rw [h1, h2] at ha
      simp only at ha
      rw [ha.2 (t, _) (by simp only [List.mem_singleton]; rfl)]
    · exact hc.elim
  | makeFunc fn fi ca =>
    have h1 : fi.toList.map ev' = fi.toList.map ev := List.map_congr_left fun x hx => hev x (by simp only [Op.operands, Array.mem_append]; exact .inl (by simpa using hx))
    have h2 : ca.toList.map ev' = ca.toList.map ev := List.map_congr_left fun x hx => hev x (by simp only [Op.operands, Array.mem_append]; exact .inr (by simpa using hx))
    simp only [sem, h1, h2]
  | call c =>
    obtain ⟨cal, as, tys⟩ := c
    cases cal with
    | builtin b =>
      have hm : as.toList.map ev' = as.toList.map ev := List.map_congr_left fun x hx => hev x (by simp only [Op.operands, Call.operands]; simpa using hx)
      simp only [sem, hm] at hc ha ⊢
      exact semBuiltin_congr hc ha
    | _ => rfl
  | _ => rfl
end
end Go.PS
