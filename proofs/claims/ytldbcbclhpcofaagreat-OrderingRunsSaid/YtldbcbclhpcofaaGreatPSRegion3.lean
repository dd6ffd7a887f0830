/- A region, in whatever order the model draws. -/
import Derived.Test.YtldbcbclhpcofaaGreatPSOps11
set_option linter.unusedSimpArgs false
set_option linter.unusedVariables false
namespace Go.PS
open Go

section
variable {P : Program} {own : Nat → Bool} {objs objs' : Nat → Ob} {B X : Nat → Prop} {w0 : W0} {w : World} {n : Nat} {S : St} {a : Act} {ι : Nat → Option Nat} {ops : Array Oper}

theorem argFit_congr {g : Nat → Nat} {fl : Prop} : ∀ (xs ps : List PV), (∀ o ∈ xs.flatMap (PV.refs objs 4), objs' o = objs o) → ArgFit objs g fl xs ps → ArgFit objs' g fl xs ps := by
 intro xs
 induction xs with
 | nil => intro ps _ h; cases ps with
          | nil => trivial
          | cons => exact h.elim
 | cons x xs ih =>
  intro ps hr h
  cases ps with
  | nil => exact h.elim
  | cons p ps =>
   simp only [List.flatMap_cons, List.mem_append] at hr
   obtain ⟨h1, h2⟩ := toD_congr (objs := objs) (objs' := objs') 4 x (fun o ho => hr o (.inl ho))
   refine ⟨?_, ih ps (fun o ho => hr o (.inr ho)) h.2⟩
   rw [h1, h2]; exact h.1

theorem callCondM_congr {f : PV} {xs : List PV} {e : Eff} (ha : Agree e objs objs') (h : CallCondM P objs f xs e) : CallCondM P objs' f xs e := by
 obtain ⟨h, caps, args, M, M', r, g, fl, hfv, hargs, hcalls, hids, hao, hMo, hro, hMo', hnd, hobs, h2000, hng, hflat, rfl⟩ := h
 have hrd : ∀ o ∈ (xs ++ caps).flatMap (PV.refs objs 4), objs' o = objs o := ha.1
 refine ⟨h, caps, args, M, M', r, g, fl, hfv, argFit_congr _ _ hrd hargs, hcalls, hids, hao, hMo, hro, hMo', hnd, fun q hq => ?_, h2000, hng, fun hfl => ⟨(hflat hfl).1, fun x hx o ho => ?_⟩, ?_⟩
 ·rw [← hobs q hq]
  have hq' : q.1 ∈ M'.map (·.1) := by rw [hids]; exact List.mem_map_of_mem hq
  obtain ⟨q', hq', he⟩ := List.mem_map.1 hq'
  have := ha.2 (g q'.1, q'.2.ren g) (List.mem_map.2 ⟨q', hq', rfl⟩)
  rw [← he]; exact this
 ·have := (toD_congr (objs := objs) (objs' := objs') 4 x (fun o ho => hrd o (List.mem_flatMap.2 ⟨x, hx, ho⟩))).2
  rw [this] at ho
  exact (hflat hfl).2 x hx o ho
 ·rw [(toDs_congr (objs := objs) (objs' := objs') 4 _ hrd).2]

theorem does1_congr {o : Oper} {S S' : St} {e : Eff} (hev : ∀ x ∈ o.op.operands, S'.ev x = S.ev x) (ha : Agree e S.objs S'.objs) (h : Does1 P own o S e) : Does1 P own o S' e := by
 obtain ⟨dst, op, ty, pos, af, gd⟩ := o
 simp only at hev
 have plain : (sem P own S.ev S.objs dst op).1 ∧ e = (sem P own S.ev S.objs dst op).2 → (sem P own S'.ev S'.objs dst op).1 ∧ e = (sem P own S'.ev S'.objs dst op).2 := by
  rintro ⟨h1, rfl⟩
  rw [sem_congr hev h1 ha]
  exact ⟨h1, rfl⟩
 cases op with
 | call c =>
  obtain ⟨cal, as, tys⟩ := c
  cases cal with
  | value f =>
   have hf : S'.ev f = S.ev f := hev f (by simp [Op.operands, Call.operands])
   have hm : as.toList.map S'.ev = as.toList.map S.ev := List.map_congr_left fun x hx => hev x (by simp [Op.operands, Call.operands]; right; simpa using hx)
   rcases h.symm with hc | ⟨r, hc, rfl⟩
   ·refine .inr ?_
    show CallCondM P S'.objs (S'.ev f) (as.toList.map S'.ev) e
    rw [hf, hm]
    exact callCondM_congr ha hc
   obtain ⟨h1, h2⟩ := toDs_congr (objs := S.objs) (objs' := S'.objs) 4 (as.toList.map S.ev) ha.1
   refine .inl ⟨r, ?_, ?_⟩
   ·unfold CallCond at hc ⊢
    rw [hf, hm, h1, h2]; exact hc
   ·simp only [hm, h2]
  | builtin b => exact plain h
  | invoke r m => exact plain h
 | _ => exact plain h

theorem does_congr {all : List Oper} {o : Oper} {S S' : St} {e : Eff} (hev : ∀ x ∈ o.op.operands, S'.ev x = S.ev x) (hgd : ∀ j w, o.guard = some (j, w) → grd all S' j = grd all S j) (ha : Agree e S.objs S'.objs)
  (h : Does P own all o S e) : Does P own all o S' e := by
 unfold Does at h ⊢
 cases hg : o.guard with
 | none => rw [hg] at h; exact does1_congr hev ha h
 | some q =>
  obtain ⟨j, want⟩ := q
  rw [hg] at h
  obtain ⟨b, hb, h⟩ := h
  refine ⟨b, (hgd j want hg).trans hb, ?_⟩
  by_cases hw : b = some want
  ·rw [if_pos hw] at h ⊢; exact does1_congr hev ha h
  ·rw [if_neg hw] at h ⊢; exact h

def compat (ops : Array Oper) (x y : Oper) (fx fy : Foot) : Bool :=
 x.apart ops y && fx.2.all (fun o => !fy.1.contains o && !fy.2.contains o) && fy.2.all (fun o => !fx.1.contains o)

theorem app_env {S : St} {dst : Option Nat} {e : Eff} (t : Nat) (h : dst ≠ some t) : (S.app dst e).env t = S.env t := by
 unfold St.app
 cases dst with
 | none => rfl
 | some d => exact if_neg (fun he => h (by rw [he]))

theorem app_objs {S : St} {dst : Option Nat} {e : Eff} (o : Nat) (h : o ∉ e.wr.map (·.1)) : (S.app dst e).objs o = S.objs o := wrs_no _ _ o h

theorem ev_app {ops : Array Oper} {S : St} {dst : Option Nat} {e : Eff} {y : Oper} (h : ∀ d, dst = some d → d ∉ y.looksAt ops) : ∀ x ∈ y.op.operands, (S.app dst e).ev x = S.ev x := by
 intro x hx
 cases x with
 | tmp t =>
  refine app_env t (fun he => h t he ?_)
  simp only [Oper.looksAt, List.mem_append, List.mem_filterMap]
  exact .inl ⟨.tmp t, by simpa using hx, rfl⟩
 | _ => rfl

theorem grd_app {ops : Array Oper} {S : St} {dst : Option Nat} {e : Eff} {y : Oper} (h : ∀ d, dst = some d → d ∉ y.looksAt ops) : ∀ j w, y.guard = some (j, w) → grd ops.toList (S.app dst e) j = grd ops.toList S j := by
 intro j wnt hg
 unfold grd
 simp only [Array.getElem?_toList]
 cases ht : (ops[j]?).bind (·.dst) with
 | none => rfl
 | some t =>
  simp only
  rw [app_env t]
  intro he
  refine h t he ?_
  simp only [Oper.looksAt, List.mem_append, hg]
  right
  simp only [ht, Option.toList_some, List.mem_singleton]

theorem wrs_upd {objs : Nat → Ob} {o : Nat} {ob : Ob} : ∀ (l : List (Nat × Ob)), o ∉ l.map (·.1) → wrs l (upd o ob objs) = upd o ob (wrs l objs) := by
 intro l
 induction l with
 | nil => intro _; rfl
 | cons q l ih =>
  intro h
  simp only [List.map_cons, List.mem_cons, not_or] at h
  show upd q.1 q.2 (wrs l (upd o ob objs)) = upd o ob (upd q.1 q.2 (wrs l objs))
  rw [ih h.2]
  funext i
  simp only [upd]
  by_cases c1 : i = q.1
  ·subst c1; rw [if_pos rfl, if_neg (fun he => h.1 he.symm), if_pos rfl]
  ·rw [if_neg c1, if_neg c1]

theorem wrs_comm : ∀ (l1 l2 : List (Nat × Ob)) (objs : Nat → Ob), (∀ o ∈ l1.map (·.1), o ∉ l2.map (·.1)) → wrs l2 (wrs l1 objs) = wrs l1 (wrs l2 objs) := by
 intro l1
 induction l1 with
 | nil => intro l2 objs _; rfl
 | cons q l1 ih =>
  intro l2 objs h
  show wrs l2 (upd q.1 q.2 (wrs l1 objs)) = upd q.1 q.2 (wrs l1 (wrs l2 objs))
  rw [wrs_upd l2 (h q.1 (by simp)), ih l2 objs (fun o ho => h o (by simp only [List.map_cons, List.mem_cons]; exact .inr ho))]

theorem app_comm {S : St} {d1 d2 : Option Nat} {e1 e2 : Eff} (hd : ∀ d, d1 = some d → d2 ≠ some d) (hw : ∀ o ∈ e1.wr.map (·.1), o ∉ e2.wr.map (·.1)) :
  (S.app d1 e1).app d2 e2 = (S.app d2 e2).app d1 e1 := by
 unfold St.app
 simp only
 congr 1
 ·cases d1 with
  | none => rfl
  | some t1 =>
   cases d2 with
   | none => rfl
   | some t2 =>
    have hne : t1 ≠ t2 := fun he => hd t1 rfl (by rw [he])
    funext i
    simp only [upd]
    by_cases c1 : i = t1
    ·subst c1; rw [if_neg hne, if_pos rfl, if_pos rfl]
    ·rw [if_neg c1, if_neg c1]
 ·exact wrs_comm _ _ _ hw

theorem swap {x y : Oper} {ex ey : Eff} {S : St} (hx : Does P own ops.toList x S ex) (hy : Does P own ops.toList y (S.app x.dst ex) ey) (hc : compat ops x y ex.foot ey.foot = true) :
  Does P own ops.toList y S ey ∧ Does P own ops.toList x (S.app y.dst ey) ex ∧ (S.app x.dst ex).app y.dst ey = (S.app y.dst ey).app x.dst ex := by
 unfold compat at hc
 simp only [Bool.and_eq_true, Eff.foot, Bool.not_eq_true', List.all_eq_true] at hc
 obtain ⟨⟨hap, h1⟩, h2⟩ := hc
 obtain ⟨p1, p2, p3⟩ := Oper.apart_spec hap
 have w1 : ∀ o ∈ ex.wr.map (·.1), o ∉ ey.rd ∧ o ∉ ey.wr.map (·.1) := by
  intro o hw
  have := h1 o hw
  simp only [List.contains_eq_mem, decide_eq_false_iff_not] at this
  exact this
 have w2 : ∀ o ∈ ey.wr.map (·.1), o ∉ ex.rd := by
  intro o hw
  have := h2 o hw
  simpa using this
 have agy : Agree ey (S.app x.dst ex).objs S.objs :=
  ⟨fun o ho => (app_objs o (fun hw => (w1 o hw).1 ho)).symm, fun q hq => (app_objs q.1 (fun hw => (w1 q.1 hw).2 (List.mem_map_of_mem hq))).symm⟩
 have agx : Agree ex S.objs (S.app y.dst ey).objs :=
  ⟨fun o ho => app_objs o (fun hw => w2 o hw ho), fun q hq => app_objs q.1 (fun hw => (w1 q.1 (List.mem_map_of_mem hq)).2 hw)⟩
 exact ⟨does_congr (fun q hq => (ev_app p1 q hq).symm) (fun j w hg => (grd_app p1 j w hg).symm) agy hy, does_congr (ev_app p3) (grd_app p3) agx hx,
  app_comm p2 (fun o ho => (w1 o ho).2)⟩

def RunsI (P : Program) (own : Nat → Bool) (ops : Array Oper) (E : Nat → Eff) : List Nat → St → St → Prop
 | [], S, S' => S' = S
 | i :: rest, S, S' => ∃ o, ops[i]? = some o ∧ Does P own ops.toList o S (E i) ∧ RunsI P own ops E rest (S.app o.dst (E i)) S'

theorem runs_es {all : List Oper} : ∀ (l : List Oper) (S S' : St) (fs : List Foot), Runs P own all l S S' fs → ∃ es : List Eff, es.length = l.length ∧ fs = es.map Eff.foot ∧
  ∀ (E : Nat → Eff) (k : Nat) (ops : Array Oper), ops.toList = all → (∀ j o, l[j]? = some o → ops[k + j]? = some o) → (∀ j e, es[j]? = some e → E (k + j) = e) → RunsI P own ops E (List.range' k l.length) S S' := by
 intro l
 induction l with
 | nil => rintro S S' fs ⟨rfl, rfl⟩; exact ⟨[], rfl, rfl, fun E k ops _ _ _ => rfl⟩
 | cons o rest ih =>
  rintro S S' fs ⟨e, fs', h1, h2, rfl⟩
  obtain ⟨es, hl, rfl, hr⟩ := ih _ _ _ h2
  refine ⟨e :: es, by simp [hl], rfl, fun E k ops hall hops hE => ?_⟩
  simp only [List.length_cons, List.range'_succ]
  have hEk : E k = e := hE 0 e rfl
  refine ⟨o, hops 0 o rfl, by rw [hall, hEk]; exact h1, ?_⟩
  rw [hEk]
  exact hr E (k + 1) ops hall (fun j q hj => by rw [show k + 1 + j = k + (j + 1) by omega]; exact hops (j + 1) q (by simpa using hj)) (fun j q hj => by rw [show k + 1 + j = k + (j + 1) by omega]; exact hE (j + 1) q (by simpa using hj))

theorem front {E : Nat → Eff} {k : Nat} {ok : Oper} (hk : ops[k]? = some ok) : ∀ (pre post : List Nat) (S Sf : St), RunsI P own ops E (pre ++ k :: post) S Sf → (∀ i ∈ pre, ∀ oi, ops[i]? = some oi → compat ops oi ok (E i).foot (E k).foot = true) →
  Does P own ops.toList ok S (E k) ∧ RunsI P own ops E (pre ++ post) (S.app ok.dst (E k)) Sf := by
 intro pre
 induction pre with
 | nil =>
  rintro post S Sf ⟨o, ho, h1, h2⟩ _
  rw [hk] at ho; cases ho
  exact ⟨h1, h2⟩
 | cons i pre ih =>
  rintro post S Sf ⟨o, ho, h1, h2⟩ hc
  obtain ⟨h3, h4⟩ := ih post _ Sf h2 (fun j hj => hc j (List.mem_cons_of_mem _ hj))
  obtain ⟨g1, g2, g3⟩ := swap h1 h3 (hc i (by simp) o ho)
  refine ⟨g1, o, ho, g2, ?_⟩
  rw [← g3]; exact h4

theorem before_spec (ops : Array Oper) (Ls : Nat → Prop) (hcl : ∀ k o, Ls k → ops[k]? = some o → ∀ e ∈ o.after, Region.binds .any e = true → e.on < k ∧ Ls e.on) :
  ∀ k o, ops[k]? = some o → (∀ e ∈ o.after, Region.binds .any e = true → e.on < k ∧ Ls e.on) → ∀ i, ((Region.before ops).getD k 0).testBit i = true → Ls i := by
 have main : ∀ (l : List Oper) (m : Nat) (acc : Array Nat), acc.size = m → (∀ j o, l[j]? = some o → ops[m + j]? = some o) →
   (∀ k o, k < m → ops[k]? = some o → (∀ e ∈ o.after, Region.binds .any e = true → e.on < k ∧ Ls e.on) → ∀ i, (acc.getD k 0).testBit i = true → Ls i) →
   ∀ k o, k < m + l.length → ops[k]? = some o → (∀ e ∈ o.after, Region.binds .any e = true → e.on < k ∧ Ls e.on) →
    ∀ i, ((l.foldl (fun acc o => acc.push (o.after.foldl (fun s e => if Region.binds .any e then s ||| 2 ^ e.on ||| acc.getD e.on 0 else s) 0)) acc).getD k 0).testBit i = true → Ls i := by
  intro l
  induction l with
  | nil => intro m acc _ _ hacc k o hk; simpa using hacc k o (by simpa using hk)
  | cons q l ih =>
   intro m acc hm hl hacc k o hk
   simp only [List.foldl_cons]
   refine ih (m + 1) _ (by simp [hm]) (fun j o' hj => by rw [show m + 1 + j = m + (j + 1) by omega]; exact hl (j + 1) o' (by simpa using hj)) ?_ k o (by simp at hk; omega)
   intro k o hk hok he i hi
   by_cases hkm : k < m
   ·refine hacc k o hkm hok he i ?_
    rw [Array.getD_eq_getD_getElem?, Array.getElem?_push, if_neg (by omega)] at hi
    rw [Array.getD_eq_getD_getElem?]; exact hi
   ·have hkm : k = m := by omega
    subst hkm
    have hq : ops[k]? = some q := by have := hl 0 q rfl; simpa using this
    rw [hq] at hok; cases hok
    rw [Array.getD_eq_getD_getElem?, Array.getElem?_push, if_pos hm.symm] at hi
    simp only [Option.getD_some] at hi
    rw [← Array.foldl_toList] at hi
    have fold : ∀ (es : List Edge) (s : Nat), (∀ e ∈ es, Region.binds .any e = true → e.on < k ∧ Ls e.on) → (s.testBit i = true → Ls i) → (es.foldl (fun s e => if Region.binds .any e then s ||| 2 ^ e.on ||| acc.getD e.on 0 else s) s).testBit i = true → Ls i := by
     intro es
     induction es with
     | nil => intro s _ hs h; exact hs h
     | cons e es ihe =>
      intro s hes hs h
      simp only [List.foldl_cons] at h
      refine ihe _ (fun e' he' => hes e' (List.mem_cons_of_mem _ he')) ?_ h
      intro h'
      split at h'
      ·rename_i hb
       simp only [Nat.testBit_or, Bool.or_eq_true] at h'
       obtain ⟨hlt, hLs⟩ := hes e (by simp) hb
       rcases h' with (h' | h') | h'
       ·exact hs h'
       ·have : i = e.on := by
         rw [Nat.testBit_two_pow] at h'
         simpa [eq_comm] using h'
        rw [this]; exact hLs
       ·have hsome : e.on < ops.size := by
         have := (Array.getElem?_eq_some_iff.1 hq).1; omega
        exact hacc e.on ops[e.on] hlt (Array.getElem?_eq_getElem hsome) (hcl e.on _ hLs (Array.getElem?_eq_getElem hsome)) i h'
      ·exact hs h'
    exact fold _ 0 (fun e he' => he e (by simpa using he')) (by simp) hi
 intro k o hok he i hi
 unfold Region.before at hi
 rw [← Array.foldl_toList] at hi
 have hk := (Array.getElem?_eq_some_iff.1 hok).1
 exact main ops.toList 0 #[] rfl (fun j o' hj => by simpa using hj) (fun k o hk => by omega) k o (by simpa using hk) hok he i hi

def okRegion (n : Nat) (ops : Array Oper) (draw : Bool) (fs : List Foot) : Bool :=
 ops.toList.all (Oper.plain n) &&
 (!draw || (ops.toList.zipIdx.all (fun q => q.1.after.toList.all fun e => !Region.binds .any e || decide (e.on < q.2)) &&
  (List.range ops.size).all fun k => (List.range k).all fun i => ((Region.before ops).getD k 0).testBit i || (match ops[i]?, ops[k]? with
   | some x, some y => compat ops x y (fs.getD i ([], [])) (fs.getD k ([], []))
   | _, _ => false)))
end
end Go.PS
namespace Go.PS
open Go

section
variable {P : Program} {own : Nat → Bool} {B X : Nat → Prop} {w0 : W0} {w : World} {n : Nat} {S : St} {a : Act} {ι : Nat → Option Nat} {ops : Array Oper}

def left (ops : Array Oper) (listed : Array Bool) : List Nat := (List.range ops.size).filter fun i => !listed.getD i true

theorem left_sorted (listed : Array Bool) : (left ops listed).Pairwise (· < ·) := List.Pairwise.filter _ List.pairwise_lt_range

theorem mem_left {listed : Array Bool} {i : Nat} : i ∈ left ops listed ↔ i < ops.size ∧ listed.getD i true = false := by
 simp [left]

theorem any_sound (E : Nat → Eff) {Sf : St} {Q : Exit → Act → World → Prop} (hpl : ∀ o ∈ ops.toList, Oper.plain n o = true)
  (hedge : ∀ k o, ops[k]? = some o → ∀ e ∈ o.after, Region.binds .any e = true → e.on < k)
  (hcomp : ∀ k i x y, i < k → ops[i]? = some x → ops[k]? = some y → ((Region.before ops).getD k 0).testBit i = true ∨ compat ops x y (E i).foot (E k).foot = true)
  (hQ : ∀ a' w' ι', Hold B X w0 n Sf a' w' ι' → Q .normal a' w') :
  ∀ (fuel : Nat) (listed : Array Bool) (S : St) (a : Act) (w : World) (ι : Nat → Option Nat), listed.size = ops.size → (left ops listed).length ≤ fuel →
   (∀ k o, listed.getD k true = true → ops[k]? = some o → ∀ e ∈ o.after, Region.binds .any e = true → listed.getD e.on false = true) →
   RunsI P own ops E (left ops listed) S Sf → Hold B X w0 n S a w ι → wpAny P .any ops Q fuel listed a w := by
 intro fuel
 have getDs : ∀ (listed : Array Bool) (i : Nat), i < listed.size → listed.getD i true = listed.getD i false := fun listed i hi => by simp [Array.getD, hi]
 have ready_sub : ∀ (listed : Array Bool) (i : Nat), i ∈ Region.ready .any ops listed → i ∈ left ops listed ∧ ∀ o, ops[i]? = some o → ∀ e ∈ o.after, Region.binds .any e = true → listed.getD e.on false = true := by
  intro listed i hi
  simp only [Region.ready, List.mem_filter, List.mem_range, Bool.and_eq_true, Bool.not_eq_true'] at hi
  refine ⟨mem_left.2 ⟨hi.1, hi.2.1⟩, fun o ho e he hb => ?_⟩
  have h := hi.2.2
  rw [ho] at h
  simp only [Option.map_some, Option.getD_some, Array.all_eq_true_iff_forall_mem] at h
  have := h e he
  rw [hb] at this
  simpa using this
 induction fuel with
 | zero =>
  intro listed S a w ι hsz hl hcl hr hS
  have h0 : left ops listed = [] := List.eq_nil_of_length_eq_zero (by omega)
  rw [h0] at hr
  cases hr
  refine ⟨?_, hQ _ _ _ hS⟩
  rw [List.eq_nil_iff_forall_not_mem]
  intro i hi
  have := (ready_sub listed i hi).1
  rw [h0] at this; cases this
 | succ fuel ih =>
  intro listed S a w ι hsz hl hcl hr hS
  refine ⟨fun hnil => ?_, fun i hi => ?_⟩
  ·cases hL : left ops listed with
   | nil => rw [hL] at hr; cases hr; exact hQ _ _ _ hS
   | cons k rest =>
    exfalso
    have hk : k ∈ left ops listed := by rw [hL]; simp
    obtain ⟨hk1, hk2⟩ := mem_left.1 hk
    have : k ∈ Region.ready .any ops listed := by
     simp only [Region.ready, List.mem_filter, List.mem_range, Bool.and_eq_true, Bool.not_eq_true']
     refine ⟨hk1, hk2, ?_⟩
     rw [Array.getElem?_eq_getElem hk1]
     simp only [Option.map_some, Option.getD_some, Array.all_eq_true_iff_forall_mem]
     intro e he
     cases hb : Region.binds .any e with
     | false => rfl
     | true =>
      have hlt := hedge k _ (Array.getElem?_eq_getElem hk1) e he hb
      have hnm : e.on ∉ left ops listed := by
       intro hm
       rw [hL] at hm
       rcases List.mem_cons.1 hm with h | h
       ·omega
       ·have hs := left_sorted (ops := ops) listed
        rw [hL] at hs
        have := (List.pairwise_cons.1 hs).1 _ h
        omega
      rw [mem_left] at hnm
      have h1 : listed.getD e.on true = true := by
       cases hq : listed.getD e.on true with
       | true => rfl
       | false => exact absurd ⟨by omega, hq⟩ hnm
      simpa [← getDs listed e.on (by omega)] using h1
    rw [hnil] at this; cases this
  ·obtain ⟨hmem, hpre⟩ := ready_sub listed i hi
   obtain ⟨hi1, hi2⟩ := mem_left.1 hmem
   have hio : ops[i]? = some ops[i] := Array.getElem?_eq_getElem hi1
   obtain ⟨pre, post, hL⟩ := List.append_of_mem hmem
   have hs := left_sorted (ops := ops) listed
   rw [hL] at hs hr
   have hs2 := List.pairwise_append.1 hs
   have hlt : ∀ j ∈ pre, j < i := fun j hj => hs2.2.2 j hj i (by simp)
   have hgt : ∀ j ∈ post, i < j := fun j hj => (List.pairwise_cons.1 hs2.2.1).1 j hj
   obtain ⟨hd, hrest⟩ := front hio pre post S Sf hr (fun j hj oj hoj => by
    rcases hcomp i j oj _ (hlt j hj) hoj hio with hb | hc
    ·exfalso
     have := before_spec ops (fun j => listed.getD j false = true) (fun k o hk hko e he hb => ⟨hedge k o hko e he hb, hcl k o (by
       have hkk : k < listed.size := by rw [hsz]; exact (Array.getElem?_eq_some_iff.1 hko).1
       rw [getDs listed k hkk]; exact hk) hko e he hb⟩) i _ hio (fun e he hb => ⟨hedge i _ hio e he hb, hpre _ hio e he hb⟩) j hb
     have hjm : j ∈ left ops listed := by rw [hL]; simp [hj]
     obtain ⟨hj1, hj2⟩ := mem_left.1 hjm
     rw [getDs listed j (by omega)] at hj2
     rw [hj2] at this; cases this
    ·exact hc)
   have hleft : left ops (listed.setIfInBounds i true) = pre ++ post := by
    have h1 : left ops (listed.setIfInBounds i true) = (left ops listed).filter (fun j => j != i) := by
     unfold left
     rw [List.filter_filter]
     refine List.filter_congr (fun j hj => ?_)
     simp only [List.mem_range] at hj
     simp only [Array.getD_eq_getD_getElem?, Array.getElem?_setIfInBounds, hsz]
     by_cases hji : i = j
     ·subst hji; simp [hi1]
     ·have hne : (j != i) = true := by simpa [bne_iff_ne] using Ne.symm hji
      simp [hji, hne]
    rw [h1, hL, List.filter_append, List.filter_cons]
    simp only [bne_self_eq_false, Bool.false_eq_true, if_false]
    congr 1
    ·refine List.filter_eq_self.2 (fun j hj => ?_)
     have := hlt j hj
     simp only [bne_iff_ne, ne_eq]; omega
    ·refine List.filter_eq_self.2 (fun j hj => ?_)
     have := hgt j hj
     simp only [bne_iff_ne, ne_eq]; omega
   refine does_wp hS hio (hpl _ (by simp)) hd (fun a' w' ι' h' => ?_)
   refine ih (listed.setIfInBounds i true) _ a' w' ι' (by simpa using hsz) ?_ ?_ ?_ h'
   ·rw [hleft]
    have : (left ops listed).length = pre.length + (post.length + 1) := by rw [hL]; simp
    simp only [List.length_append]; omega
   ·intro k o hk ho e he hb
    have key : listed.getD e.on false = true := by
     by_cases hki : i = k
     ·subst hki; rw [hio] at ho; cases ho; exact hpre _ hio e he hb
     ·refine hcl k o ?_ ho e he hb
      rw [Array.getD_eq_getD_getElem?, Array.getElem?_setIfInBounds, if_neg hki] at hk
      rw [Array.getD_eq_getD_getElem?]; exact hk
    rw [Array.getD_eq_getD_getElem?, Array.getElem?_setIfInBounds]
    split
    ·split <;> simp_all
    ·rw [Array.getD_eq_getD_getElem?] at key; exact key
   ·rw [hleft]; exact hrest

theorem text_sound (E : Nat → Eff) {Sf : St} {Q : Exit → Act → World → Prop} (hpl : ∀ o ∈ ops.toList, Oper.plain n o = true) (hQ : ∀ a' w' ι', Hold B X w0 n Sf a' w' ι' → Q .normal a' w') :
  ∀ (l : List Nat) (S : St) (a : Act) (w : World) (ι : Nat → Option Nat), RunsI P own ops E l S Sf → Hold B X w0 n S a w ι → wpOps P ops Q l a w := by
 intro l
 induction l with
 | nil => rintro S a w ι h hS; cases h; exact hQ _ _ _ hS
 | cons i l ih =>
  rintro S a w ι ⟨o, ho, hd, hr⟩ hS
  rw [wpOps_cons]
  exact does_wp hS ho (hpl o (by simpa using Array.mem_of_getElem? ho)) hd (fun a' w' ι' h' => ih _ a' w' ι' hr h')

theorem region_sound (hmix : P.follows .mixedOrders = true) {id : Nat} {draw : Bool} {K : St → List Foot → Prop} {Q : Exit → Act → World → Prop} (hS : Hold B X w0 n S a w ι)
  (hrun : Zax P own ops.toList ops.toList S [] K) (hK : ∀ Sf fs, K Sf fs → okRegion n ops draw fs.reverse = true ∧ ∀ a' w' ι', Hold B X w0 n Sf a' w' ι' → Q .normal a' w') :
  (Code.region id ops draw).wp P Q a w := by
 obtain ⟨Sf, fs, hr, hk⟩ := runs_of_wpRun _ _ _ _ hrun
 obtain ⟨hok, hQ⟩ := hK _ _ hk
 simp only [List.append_nil, List.reverse_reverse] at hok
 obtain ⟨es, hel, rfl, hri⟩ := runs_es _ _ _ _ hr
 have hRI := hri (fun i => es.getD i default) 0 ops rfl (fun j o hj => by simpa using hj) (fun j e hj => by simp [List.getD, hj])
 rw [← List.range_eq_range'] at hRI
 simp only [Array.length_toList] at hRI hel
 simp only [okRegion, Bool.and_eq_true, List.all_eq_true] at hok
 obtain ⟨hpl, hdr⟩ := hok
 cases draw with
 | false => exact wp_region (text_sound _ hpl hQ _ S a w ι hRI hS)
 | true =>
  simp only [Bool.not_true, Bool.false_or, Bool.and_eq_true, List.all_eq_true, List.mem_range] at hdr
  obtain ⟨hedge, hcomp⟩ := hdr
  have hleft0 : left ops (Array.replicate ops.size false) = List.range ops.size := by
   unfold left
   refine List.filter_eq_self.2 (fun j hj => ?_)
   simp only [List.mem_range] at hj
   simp [Array.getD, hj]
  have hS' := hS.ext (w' := { w with drawn := w.drawn + 1 }) ⟨rfl, rfl, rfl, Nat.le_refl _, fun _ _ => rfl⟩
  refine wp_region_any hmix (any_sound (own := own) (fun i => es.getD i default) hpl ?_ ?_ hQ ops.size _ S a _ ι (by simp) (by rw [hleft0]; simp) ?_ (by rw [hleft0]; exact hRI) hS')
  ·intro k o ho e he hb
   have := hedge (o, k) (by
    rw [List.mem_zipIdx_iff_getElem?]
    simpa using ho) e (by simpa using he)
   rw [hb] at this
   simpa using this
  ·intro k i x y hik hx hy
   have hk := (Array.getElem?_eq_some_iff.1 hy).1
   have := hcomp k hk i hik
   rw [hx, hy] at this
   simp only [Bool.or_eq_true] at this
   rcases this with h | h
   ·exact .inl h
   ·refine .inr ?_
    have e1 : ∀ j, j < ops.size → (es.map Eff.foot).getD j ([], []) = (es.getD j default).foot := fun j hj => by
     have : j < es.length := by omega
     simp [List.getD, this]
    rw [e1 i (by omega), e1 k hk] at h
    exact h
  ·intro k o hk ho
   have hlt := (Array.getElem?_eq_some_iff.1 ho).1
   simp [Array.getD, hlt] at hk
end
end Go.PS
namespace Go.PS
open Go

def PW (P : Program) (B X : Nat → Prop) (w0 : W0) (n : Nat) (c : Code) (Q : Exit → St → Prop) (S : St) : Prop :=
 ∀ a w ι, Hold B X w0 n S a w ι → c.wp P (fun e a' w' => ∃ S' ι', Q e S' ∧ Hold B X w0 n S' a' w' ι') a w

def Ent (S S' : St) : Prop := ∀ (B X : Nat → Prop) (w0 : W0) (n : Nat) (a : Act) (w : World) (ι : Nat → Option Nat), Hold B X w0 n S a w ι → ∃ ι', Hold B X w0 n S' a w ι'

theorem Ent.refl (S : St) : Ent S S := fun _ _ _ _ _ _ ι h => ⟨ι, h⟩
theorem Ent.trans {S S' S'' : St} (h : Ent S S') (h' : Ent S' S'') : Ent S S'' := fun B X w0 n a w ι hS => by
 obtain ⟨ι', h1⟩ := h B X w0 n a w ι hS
 exact h' B X w0 n a w ι' h1

def thenQ (next : St → Prop) (Q : Exit → St → Prop) : Exit → St → Prop
 | .normal, S => next S
 | .exit i, S => Q (.exit i) S
 | .goto i, S => Q (.goto i) S
 | .ret, S => Q .ret S
 | .panic c, S => Q (.panic c) S
 | .outgrown, S => Q .outgrown S

def blockQ (id : Nat) (Q : Exit → St → Prop) : Exit → St → Prop
 | .exit i, S => if i = id then Q .normal S else Q (.exit i) S
 | .normal, S => Q .normal S
 | .goto i, S => Q (.goto i) S
 | .ret, S => Q .ret S
 | .panic c, S => Q (.panic c) S
 | .outgrown, S => Q .outgrown S

section rules
variable {P : Program} {B X : Nat → Prop} {w0 : W0} {n : Nat} {Q : Exit → St → Prop} {S : St}

theorem pw_mono {c : Code} {Q' : Exit → St → Prop} (h : PW P B X w0 n c Q S) (hq : ∀ e S, Q e S → Q' e S) : PW P B X w0 n c Q' S :=
 fun a w ι hS => wp_mono (h a w ι hS) fun _ _ _ ⟨S', ι', h1, h2⟩ => ⟨S', ι', hq _ _ h1, h2⟩

theorem Zbd {c : Code} (S' : St) (he : Ent S S') (h : PW P B X w0 n c Q S') : PW P B X w0 n c Q S := fun a w ι hS => by
 obtain ⟨ι', h1⟩ := he B X w0 n a w ι hS
 exact h a w ι' h1

theorem pw_skip (h : Q .normal S) : PW P B X w0 n .skip Q S := fun _ _ ι hS => wp_skip ⟨S, ι, h, hS⟩
theorem Zac (h : Q .ret S) : PW P B X w0 n .ret Q S := fun _ _ ι hS => wp_ret ⟨S, ι, h, hS⟩
theorem pw_exit {id : Nat} (h : Q (.exit id) S) : PW P B X w0 n (.exit id) Q S := fun _ _ ι hS => wp_exit ⟨S, ι, h, hS⟩
theorem pw_seq {x y : Code} (h : PW P B X w0 n x (thenQ (fun S' => PW P B X w0 n y Q S') Q) S) : PW P B X w0 n (.seq x y) Q S := fun a w ι hS => by
 refine wp_seq (wp_mono (h a w ι hS) ?_)
 rintro e a' w' ⟨S', ι', h1, h2⟩
 cases e with
 | normal => exact h1 a' w' ι' h2
 | _ => exact ⟨S', ι', h1, h2⟩
theorem Zab {c : Operand} {x y : Code} (t : Bool) (hc : S.ev c = .d (.sc (.bool t))) (hk : Zbc c = true) (h1 : t = true → PW P B X w0 n x Q S) (h2 : t = false → PW P B X w0 n y Q S) :
  PW P B X w0 n (.cond c x y) Q S := fun a w ι hS => by
 have he := hS.ev hk
 rw [hc] at he
 exact wp_cond_split (d_bool he) (fun ht => h1 ht a w ι hS) (fun ht => h2 ht a w ι hS)
theorem pw_anyb {c : Code} (t : Nat) (h : S.env t = .ab) (hk : ∀ b : Bool, PW P B X w0 n c Q ⟨upd t (.bool b) S.env, S.objs⟩) : PW P B X w0 n c Q S := fun a w ι hS => by
 have h1 := hS.env t
 rw [h] at h1
 generalize hv : a.tmps.getD t undef = v at h1
 cases h1 with
 | ab b =>
  refine hk b a w ι { hS with env := fun u => ?_ }
  simp only [upd]
  split
  ·rename_i hu; rw [hu, hv]; exact .d _ _ (.sc _ rfl)
  ·exact hS.env u
theorem pw_block {id : Nat} {c : Code} (h : PW P B X w0 n c (blockQ id Q) S) : PW P B X w0 n (.block id c) Q S := fun a w ι hS => by
 refine wp_block (wp_mono (h a w ι hS) ?_)
 rintro e a' w' ⟨S', ι', h1, h2⟩
 cases e with
 | exit i =>
  simp only [blockQ, Exit.inBlock] at h1 ⊢
  split
  ·rename_i hi; rw [if_pos hi] at h1; exact ⟨S', ι', h1, h2⟩
  ·rename_i hi; rw [if_neg hi] at h1; exact ⟨S', ι', h1, h2⟩
 | _ => exact ⟨S', ι', h1, h2⟩
theorem pw_loop {c : Code} {κ : Type} (I : κ → St) (m : κ → Nat) (k0 : κ) (h0 : Ent S (I k0)) (round : ∀ k, PW P B X w0 n c (thenQ (fun S' => ∃ k', Ent S' (I k') ∧ m k' < m k) Q) (I k)) :
  PW P B X w0 n (.loop c) Q S := fun a w ι hS => by
 have key : ∀ N k a w ι, m k = N → Hold B X w0 n (I k) a w ι → ∀ b ks cs, ∃ e a' w', (∃ S' ι', Q e S' ∧ Hold B X w0 n S' a' w' ι') ∧ Arrives P (lone (b.at a (.code c :: .inLoop c :: ks)) cs w) b ks cs e a' w' := by
  intro N
  induction N using Nat.strongRecOn with
  | _ N ih =>
   intro k a w ι hN hI b ks cs
   obtain ⟨e, a₁, w₁, ⟨S₁, ι₁, hq, hS₁⟩, harr⟩ := round k a w ι hI b (.inLoop c :: ks) cs
   cases e with
   | normal =>
    obtain ⟨k', hent, hlt⟩ := hq
    obtain ⟨ι₂, hI'⟩ := hent B X w0 n a₁ w₁ ι₁ hS₁
    obtain ⟨e₂, a₂, w₂, hq₂, harr₂⟩ := ih (m k') (hN ▸ hlt) k' a₁ w₁ ι₂ rfl hI' b ks cs
    exact ⟨e₂, a₂, w₂, hq₂, .of_steps (Steps.trans harr (.one step_inLoop)) harr₂⟩
   | exit id => exact ⟨_, a₁, w₁, ⟨S₁, ι₁, hq, hS₁⟩, .pass (x := .inLoop c) rfl (fun _ _ => .inl (by simp)) harr⟩
   | goto l => exact ⟨_, a₁, w₁, ⟨S₁, ι₁, hq, hS₁⟩, .pass (x := .inLoop c) rfl (fun _ _ => .inl (by simp)) harr⟩
   | ret => exact ⟨_, a₁, w₁, ⟨S₁, ι₁, hq, hS₁⟩, .pass (x := .inLoop c) rfl (fun _ _ => .inl (by simp)) harr⟩
   | panic ch => exact ⟨_, a₁, w₁, ⟨S₁, ι₁, hq, hS₁⟩, .pass (x := .inLoop c) rfl (fun _ _ => .inl (by simp)) harr⟩
   | outgrown => exact ⟨_, a₁, w₁, ⟨S₁, ι₁, hq, hS₁⟩, .pass (x := .inLoop c) rfl (fun _ _ => .inl (by simp)) harr⟩
 obtain ⟨ι', hI⟩ := h0 B X w0 n a w ι hS
 intro b ks cs
 obtain ⟨e, a', w', hq, harr⟩ := key _ k0 a w ι' rfl hI b ks cs
 exact ⟨e, a', w', hq, .of_steps (.one step_loop) harr⟩
def EntL (S : St) (L : List (Nat × PV)) (M : List (Nat × Ob)) : Prop := Ent S ⟨envOf L, obOf M⟩
theorem Zap {c : Code} {κ : Type} (inv : κ → Prop) (L : κ → List (Nat × PV)) (M : κ → List (Nat × Ob)) (m : κ → Nat) (k0 : κ) (h0 : inv k0) (h1 : EntL S (L k0) (M k0))
  (round : ∀ k, inv k → PW P B X w0 n c (thenQ (fun S' => ∃ k', inv k' ∧ EntL S' (L k') (M k') ∧ m k' < m k) Q) ⟨envOf (L k), obOf (M k)⟩) : PW P B X w0 n (.loop c) Q S :=
 pw_loop (κ := { k : κ // inv k }) (fun k => ⟨envOf (L k.1), obOf (M k.1)⟩) (fun k => m k.1) ⟨k0, h0⟩ h1 fun k => pw_mono (round k.1 k.2) fun e S' h => by
  cases e with
  | normal => obtain ⟨k', h2, h3, h4⟩ := h; exact ⟨⟨k', h2⟩, h3, h4⟩
  | _ => exact h
theorem Zcx (own : Nat → Bool) (hmix : P.follows .mixedOrders = true) {id : Nat} {ops : Array Oper} {draw : Bool}
  (h : Zax P own ops.toList ops.toList S [] fun S' fs => okRegion n ops draw fs.reverse = true ∧ Q .normal S') : PW P B X w0 n (.region id ops draw) Q S := fun _ _ _ hS =>
 region_sound hmix hS h fun Sf _ ⟨h1, h2⟩ => ⟨h1, fun _ _ ι' hS' => ⟨Sf, ι', h2, hS'⟩⟩
end rules

theorem run_callT {P : Program} {own : Nat → Bool} {all rest : List Oper} {S : St} {fs : List Foot} {K : St → List Foot → Prop} {dst : Option Nat} {ty : TypeId} {pos : String} {af : Array Edge} {f : Operand} {as : Array Operand} {tys : Array TypeId}
  {g : FuncId} {ds : List D} {r : D} (hc : Zah P g ds r) (hf : S.ev f = .d (.fn g [])) (hx : (as.toList.map S.ev).mapM (toD S.objs 4) = some ds) (hr : (as.toList.map S.ev).flatMap (PV.refs S.objs 4) = [] ∨ r.flat 4 = true)
  (hk : Zax P own all rest (S.put dst (.d r)) (((as.toList.map S.ev).flatMap (PV.refs S.objs 4), []) :: fs) K) :
  Zax P own all (⟨dst, .call ⟨.value f, as, tys⟩, ty, pos, af, none⟩ :: rest) S fs K :=
 run_call r ⟨g, [], ds, hf, hx, by simpa using hc, hr⟩ hk

theorem wrap_in {x : Int} (h1 : -9223372036854775808 ≤ x) (h2 : x ≤ 9223372036854775807) : IntKind.i64.wrap x = x := by
 rw [IntKind.wrap_i64]; omega

/-! ### Weaker states -/

theorem only_at {w : World} {ι : Nat → Option Nat} {X : Nat → Prop} {L : List Nat} {ι' : Nat → Option Nat} (hκ : ∀ o ∈ L, ι' o = ι o) (sub : ∀ b, ownX ι' X b → ownX ι X b) : ∀ (k : Nat) (p : PV) (v : Value), p.only L k = true → PV.At w ι X p v → PV.At w ι' X p v := by
 intro k
 induction k with
 | zero => intro p v h; simp [PV.only] at h
 | succ k ih =>
  intro p v h hp
  cases hp with
  | d x v h => exact .d x v (h.sub sub)
  | ref o sz off len cap capr b hι hl hc hm hs =>
   simp only [PV.only, List.contains_eq_mem, decide_eq_true_eq] at h
   exact .ref o sz off len cap capr b ((hκ o h).trans hι) hl hc hm hs
  | ref0 o sz off base => exact .ref0 o sz off base
  | ptr o sz i c b hι =>
   simp only [PV.only, List.contains_eq_mem, decide_eq_true_eq] at h
   exact .ptr o sz i c b ((hκ o h).trans hι)
  | mp o b hι =>
   simp only [PV.only, List.contains_eq_mem, decide_eq_true_eq] at h
   exact .mp o b ((hκ o h).trans hι)
  | nilS => exact .nilS
  | z0 base => exact .z0 base
  | ag cs arr hsz hone hat =>
   simp only [PV.only, List.all_eq_true] at h
   exact .ag cs arr hsz hone fun j p v hj hv => ih p v (h p (List.mem_of_getElem? hj)) (hat j p v hj hv)
  | tup cs arr hsz hat =>
   simp only [PV.only, List.all_eq_true] at h
   exact .tup cs arr hsz fun j p v hj hv => ih p v (h p (List.mem_of_getElem? hj)) (hat j p v hj hv)
  | fn f cs arr hsz hat =>
   simp only [PV.only, List.all_eq_true] at h
   exact .fn f cs arr hsz fun j p v hj hv => ih p v (h p (List.mem_of_getElem? hj)) (hat j p v hj hv)
  | unk v => exact .unk v
  | und => exact .und
  | ab b => exact .ab b

theorem envOf_cases (L : List (Nat × PV)) (t : Nat) : envOf L t = .unk ∨ ∃ p, (t, p) ∈ L ∧ envOf L t = p := by
 induction L with
 | nil => exact .inl rfl
 | cons q L ih =>
  obtain ⟨i, v⟩ := q
  by_cases h : t = i
  ·subst h; exact .inr ⟨v, by simp, if_pos rfl⟩
  ·have he : envOf ((i, v) :: L) t = envOf L t := if_neg h
   rcases ih with h1 | ⟨p, h1, h2⟩
   ·exact .inl (he.trans h1)
   ·exact .inr ⟨p, List.mem_cons_of_mem _ h1, he.trans h2⟩
theorem obOf_cases (L : List (Nat × Ob)) (t : Nat) : (obOf L t = .dead ∧ t ∉ L.map (·.1)) ∨ ∃ p, (t, p) ∈ L ∧ obOf L t = p := by
 induction L with
 | nil => exact .inl ⟨rfl, by simp⟩
 | cons q L ih =>
  obtain ⟨i, v⟩ := q
  by_cases h : t = i
  ·subst h; exact .inr ⟨v, by simp, if_pos rfl⟩
  ·have he : obOf ((i, v) :: L) t = obOf L t := if_neg h
   rcases ih with ⟨h1, h0⟩ | ⟨p, h1, h2⟩
   ·exact .inl ⟨he.trans h1, by simp only [List.map_cons, List.mem_cons]; rintro (h' | h'); exact h h'; exact h0 h'⟩
   ·exact .inr ⟨p, List.mem_cons_of_mem _ h1, he.trans h2⟩

def Zbj (ids : List Nat) (objs : Nat → Ob) : Prop := ∀ o, 1000 ≤ o → o < 2000 → o ∉ ids → objs o = .dead
theorem pd_upd {ids : List Nat} {objs : Nat → Ob} {t : Nat} {ob : Ob} (ht : (decide (t < 1000) || decide (2000 ≤ t) || ids.contains t) = true) (h : Zbj ids objs) : Zbj ids (upd t ob objs) := by
 intro o h1 h2 h3
 simp only [Bool.or_eq_true, decide_eq_true_eq, List.contains_eq_mem] at ht
 have hne : o ≠ t := fun he => by subst he; rcases ht with (h | h) | h; · omega
                                  · omega
                                  · exact h3 h
 rw [upd, if_neg hne]; exact h o h1 h2 h3
theorem pd_of {ids : List Nat} (M : List (Nat × Ob)) (h : (M.all fun q => decide (q.1 < 1000) || decide (2000 ≤ q.1) || ids.contains q.1) = true) : Zbj ids (obOf M) := by
 intro o h1 h2 h3
 refine obOf_no M o (fun hm => ?_)
 obtain ⟨q, hq, rfl⟩ := List.mem_map.1 hm
 simp only [List.all_eq_true, Bool.or_eq_true, decide_eq_true_eq, List.contains_eq_mem] at h
 rcases h q hq with (h | h) | h
 ·omega
 ·omega
 ·exact h3 h
theorem pd_dead {ids : List Nat} : Zbj ids (fun _ => .dead) := fun _ _ _ _ => rfl
theorem pd_frz {ids : List Nat} {objs : Nat → Ob} {o sz : Nat} {l : List D} (h : Zbj ids objs) : Zbj ids (frzObs o sz l objs) := fun i h1 h2 h3 => by
 rw [frzObs_at, h i h1 h2 h3]; rfl

theorem ent_nil {S : St} (t o sz : Nat) (h1 : S.env t = .nilS) (h2 : S.objs o = .dead) : Ent S ⟨upd t (.ref o sz 0 0 0) S.env, upd o (.row sz []) S.objs⟩ := by
 intro B X w0 n a w ι hS
 refine ⟨ι, hS.size, hS.defers, hS.frame, hS.hB, hS.hXB, fun o1 o2 b f1 f2 e1 e2 => ?_, hS.free, fun u => ?_, fun q => ?_, hS.stay⟩
 ·have live : ∀ o', upd o (.row sz []) S.objs o' ≠ .gone → S.objs o' ≠ .gone := by
   intro o' hg
   by_cases he : o' = o
   ·rw [he, h2]; simp
   ·simp only [upd, if_neg he] at hg; exact hg
  exact hS.inj o1 o2 b (live o1 f1) (live o2 f2) e1 e2
 ·by_cases hu : u = t
  ·subst hu
   have := hS.env u
   rw [h1] at this
   simp only [upd, if_true]
   generalize a.tmps.getD u undef = v at this
   cases this
   exact .ref0 _ _ _ _
  ·simp only [upd, if_neg hu]; exact hS.env u
 ·by_cases hq : q = o
  ·subst hq; simp only [upd, if_true]; exact .row0 _ (hS.dead h2)
  ·simp only [upd, if_neg hq]; exact hS.objs q

theorem Zcl {S : St} (q i o sz : Nat) {cs : List PV} (h1 : S.objs q = .cells cs) (hi : cs[i]? = some .nilS) (h2 : S.objs o = .dead) :
  Ent S ⟨S.env, upd o (.row sz []) (upd q (.cells (cs.set i (.ref o sz 0 0 0))) S.objs)⟩ := by
 intro B X w0 n a w ι hS
 have hqo : q ≠ o := by rintro rfl; rw [h1] at h2; cases h2
 refine ⟨ι, hS.size, hS.defers, hS.frame, hS.hB, hS.hXB, fun o1 o2 b f1 f2 e1 e2 => ?_, hS.free, hS.env, fun p => ?_, hS.stay⟩
 ·have live : ∀ o', upd o (.row sz []) (upd q (.cells (cs.set i (.ref o sz 0 0 0))) S.objs) o' ≠ .gone → S.objs o' ≠ .gone := by
   intro o' hg
   by_cases he : o' = o
   ·rw [he, h2]; simp
   ·by_cases he2 : o' = q
    ·rw [he2, h1]; simp
    ·simp only [upd, if_neg he, if_neg he2] at hg; exact hg
  exact hS.inj o1 o2 b (live o1 f1) (live o2 f2) e1 e2
 ·by_cases hp : p = o
  ·subst hp; simp only [upd, if_true]; exact .row0 _ (hS.dead h2)
  ·by_cases hp2 : p = q
   ·subst hp2
    have hq := hS.objs p
    rw [h1] at hq
    simp only [upd, if_neg hp, if_true]
    cases hq with
    | cells _ b c T hι hb hsz hone h =>
     refine .cells _ b c T hι hb (by simpa using hsz) hone fun j x v hx hv => ?_
     rw [List.getElem?_set] at hx
     split at hx
     ·rename_i hij
      subst hij
      split at hx
      ·cases hx
       have := h i _ v hi hv
       cases this
       exact .ref0 _ _ _ _
      ·cases hx
     ·exact h j x v hx hv
   ·simp only [upd, if_neg hp, if_neg hp2]; exact hS.objs p

theorem PV.frzL_eq (o sz : Nat) (l : List D) : ∀ cs : List PV, PV.frzL o sz l cs = cs.map (PV.frz o sz l)
 | [] => rfl
 | c :: cs => by rw [PV.frzL, PV.frzL_eq o sz l cs]; rfl

theorem Zcm {S : St} (o sz : Nat) (l : List D) (h2 : S.objs o = .row sz l) (hng : ∀ o', S.objs o' ≠ .gone) (hmv : o < 1000 ∨ 2000 ≤ o) :
  Ent S ⟨frzEnv o sz l S.env, upd o .dead (frzObs o sz l S.objs)⟩ := by
 intro B X w0 n a w ι hS
 have hoo := hS.objs o
 rw [h2] at hoo
 have hsub : ∀ b, ownX (upd o none ι) X b → ownX ι X b := by
  rintro b (hb | ⟨o', hb⟩)
  ·exact .inl hb
  ·by_cases he : o' = o
   ·subst he; rw [upd, if_pos rfl] at hb; cases hb
   ·rw [upd, if_neg he] at hb; exact .inr ⟨o', hb⟩
 have hnb : ∀ b, ι o = some b → ¬ ownX (upd o none ι) X b := by
  intro b hι
  rintro (hx | ⟨o', ho'⟩)
  ·exact (hS.free o b hι).1 (hS.hXB b hx)
  ·by_cases he : o' = o
   ·subst he; rw [upd, if_pos rfl] at ho'; cases ho'
   ·rw [upd, if_neg he] at ho'; exact he (hS.inj o' o b (hng o') (hng o) ho' hι)
 -- a cell of the row
 have cell : ∀ b i j d e, ι o = some b → l[i]? = some d → d.cells[j]? = some e → ∃ c T v, w.heap[b]? = some (.cells c T (0, 0)) ∧ c[i * sz + j]? = some v ∧ v.oneCell' = true ∧ D.At w (ownX (upd o none ι) X) e v := by
  intro b i j d e hι hi hj
  cases hoo with
  | row0 _ h => rw [h] at hι; cases hι
  | row _ _ b' c T hι' hb hsz hcl hone h =>
   rw [hι] at hι'; cases hι'
   have hjs : j < sz := by rw [← hcl d (List.mem_of_getElem? hi)]; exact (List.getElem?_eq_some_iff.1 hj).1
   have hil := (List.getElem?_eq_some_iff.1 hi).1
   have hlt : i * sz + j < c.size := by
    have : (i + 1) * sz ≤ l.length * sz := Nat.mul_le_mul_right _ (by omega)
    rw [Nat.add_mul] at this; omega
   have hg : c[i * sz + j]? = some c[i * sz + j] := Array.getElem?_eq_getElem hlt
   exact ⟨c, T, _, hb, hg, hone _ _ hg, (h i d j e _ hi hj hg).sub hsub⟩
 have hcl : ∀ d ∈ l, d.cells.length = sz := by
  cases hoo with
  | row0 _ h => simp
  | row _ _ b' c T hι' hb hsz hcl hone h => exact hcl
 have val : ∀ {p : PV} {v : Value}, PV.At w ι X p v → PV.At w (upd o none ι) X (p.frz o sz l) v := by
  intro p v hp
  induction hp with
  | d x v h => simp only [PV.frz]; exact .d x v (h.sub hsub)
  | mp o' b hι =>
   simp only [PV.frz]
   by_cases he : o' = o
   ·rw [if_pos he]; exact .unk _
   ·rw [if_neg he]; exact .mp o' b ((if_neg he).trans hι)
  | ref o' sz' off len cap capr b hι hl hc hm hs =>
   simp only [PV.frz]
   by_cases he : o' = o
   ·subst he
    rw [if_pos rfl]
    split
    ·rename_i hcond
     obtain ⟨rfl, hle⟩ := hcond
     have hlen2 : ((l.drop off).take len).length = len := by simp; omega
     have key : ∀ (i : Nat) d (j : Nat) e, ((l.drop off).take len)[i]? = some d → d.cells[j]? = some e → l[off + i]? = some d := by
      intro i d j e hi hj
      rw [List.getElem?_take] at hi
      split at hi
      ·rw [List.getElem?_drop] at hi; exact hi
      ·cases hi
     refine .d _ _ ?_
     have := D.At.sl (w := w) (X := ownX (upd o' none ι) X) ((l.drop off).take len) b (off * sz') capr sz' (by rw [hlen2]; exact hl) hm (fun d hd => hcl d (List.mem_of_mem_drop (List.mem_of_mem_take hd)))
      (fun i j => (w.cell? ⟨b, off * sz' + i * sz' + j, none⟩).getD undef) (fun i d j e hi hj => by
       obtain ⟨c, T, v, g1, g2, g3, g4⟩ := cell b (off + i) j d e hι (key i d j e hi hj) hj
       have heq : off * sz' + i * sz' + j = (off + i) * sz' + j := by rw [Nat.add_mul]
       have hc : w.cell? ⟨b, off * sz' + i * sz' + j, none⟩ = some v := by rw [cell_arr g1, heq]; exact g2
       rw [hc]
       exact ⟨rfl, g3, hnb b hι⟩) (fun i d j e hi hj => by
       obtain ⟨c, T, v, g1, g2, g3, g4⟩ := cell b (off + i) j d e hι (key i d j e hi hj) hj
       have heq : off * sz' + i * sz' + j = (off + i) * sz' + j := by rw [Nat.add_mul]
       have hc : w.cell? ⟨b, off * sz' + i * sz' + j, none⟩ = some v := by rw [cell_arr g1, heq]; exact g2
       rw [hc]
       exact g4)
     rw [hlen2] at this
     exact this
    ·exact .unk _
   ·rw [if_neg he]; exact .ref o' sz' off len cap capr b (by rw [upd, if_neg he]; exact hι) hl hc hm hs
  | ref0 o' sz' off base =>
   simp only [PV.frz]
   by_cases he : o' = o
   ·subst he
    rw [if_pos rfl]
    split
    ·simp only [List.take_zero]; exact .d _ _ (.slnil _ _)
    ·exact .unk _
   ·rw [if_neg he]; exact .ref0 o' sz' off base
  | ptr o' sz' i c b hι =>
   simp only [PV.frz]
   by_cases he : o' = o
   ·subst he
    rw [if_pos rfl]
    split
    ·rename_i hcond
     obtain ⟨rfl, hil⟩ := hcond
     have hli : l[i]? = some l[i] := List.getElem?_eq_getElem hil
     refine .d _ _ ?_
     rw [hli]
     simp only [Option.getD_some]
     refine .pt _ b _ (fun j => (w.cell? ⟨b, i * sz' + c + j, none⟩).getD undef) (fun j e hj => ?_) (fun j e hj => ?_)
     ·rw [List.getElem?_drop] at hj
      obtain ⟨ca, T, v, g1, g2, g3, g4⟩ := cell b i (c + j) _ e hι hli hj
      have hc : w.cell? ⟨b, i * sz' + c + j, none⟩ = some v := by rw [cell_arr g1, Nat.add_assoc]; exact g2
      rw [hc]
      exact ⟨rfl, g3, hnb b hι⟩
     ·rw [List.getElem?_drop] at hj
      obtain ⟨ca, T, v, g1, g2, g3, g4⟩ := cell b i (c + j) _ e hι hli hj
      have hc : w.cell? ⟨b, i * sz' + c + j, none⟩ = some v := by rw [cell_arr g1, Nat.add_assoc]; exact g2
      rw [hc]
      exact g4
    ·exact .unk _
   ·rw [if_neg he]; exact .ptr o' sz' i c b (by rw [upd, if_neg he]; exact hι)
  | nilS => simp only [PV.frz]; exact .nilS
  | z0 base => simp only [PV.frz]; exact .z0 base
  | ag cs arr hsz hone _ ih =>
   simp only [PV.frz, PV.frzL_eq]
   refine .ag _ arr (by simpa using hsz) hone (fun j p v hj hv => ?_)
   rw [List.getElem?_map] at hj
   cases hq : cs[j]? with
   | none => rw [hq] at hj; cases hj
   | some q => rw [hq] at hj; cases hj; exact ih j q v hq hv
  | tup cs arr hsz _ ih =>
   simp only [PV.frz, PV.frzL_eq]
   refine .tup _ arr (by simpa using hsz) (fun j p v hj hv => ?_)
   rw [List.getElem?_map] at hj
   cases hq : cs[j]? with
   | none => rw [hq] at hj; cases hj
   | some q => rw [hq] at hj; cases hj; exact ih j q v hq hv
  | fn f cs arr hsz _ ih =>
   simp only [PV.frz, PV.frzL_eq]
   refine .fn f _ arr (by simpa using hsz) (fun j p v hj hv => ?_)
   rw [List.getElem?_map] at hj
   cases hq : cs[j]? with
   | none => rw [hq] at hj; cases hj
   | some q => rw [hq] at hj; cases hj; exact ih j q v hq hv
  | unk v => simp only [PV.frz]; exact .unk v
  | und => simp only [PV.frz]; exact .und
  | ab b => simp only [PV.frz]; exact .ab b
 have hιo : ∀ o' b, upd o none ι o' = some b → o' ≠ o ∧ ι o' = some b := by
  intro o' b hb
  by_cases he : o' = o
  ·subst he; rw [upd, if_pos rfl] at hb; cases hb
  ·rw [upd, if_neg he] at hb; exact ⟨he, hb⟩
 refine ⟨upd o none ι, hS.size, hS.defers, hS.frame, hS.hB, hS.hXB, fun o1 o2 b _ _ e1 e2 => hS.inj o1 o2 b (hng o1) (hng o2) (hιo o1 b e1).2 (hιo o2 b e2).2, fun o' b hb => hS.free o' b (hιo o' b hb).2, fun u => val (hS.env u), fun q => ?_, fun o' b hb => ?_⟩
 ·by_cases hq : q = o
  ·subst hq; simp only [upd, if_true]; exact .dead (if_pos rfl)
  ·simp only [upd, if_neg hq, frzObs_at]
   have hqi : upd o none ι q = ι q := if_neg hq
   have := hS.objs q
   cases hob : S.objs q with
   | dead => rw [hob] at this; cases this with | dead h => exact .dead (hqi.trans h)
   | gone => exact .gone
   | imap l' =>
    rw [hob] at this
    simp only [Ob.frz]
    cases this with
    | imap _ b es clock hι hb he => exact .imap _ b es clock (hqi.trans hι) hb he
   | cells cs =>
    rw [hob] at this
    cases this with
    | cells _ b c T hι hb hsz hone hat =>
     simp only [Ob.frz, PV.frzL_eq]
     refine .cells _ b c T (hqi.trans hι) hb (by simpa using hsz) hone (fun j p v hj hv => ?_)
     rw [List.getElem?_map] at hj
     cases hp : cs[j]? with
     | none => rw [hp] at hj; cases hj
     | some p' => rw [hp] at hj; cases hj; exact val (hat j p' v hp hv)
   | row sz' l' =>
    rw [hob] at this
    simp only [Ob.frz]
    cases this with
    | row0 _ h => exact .row0 _ (hqi.trans h)
    | row _ _ b c T hι hb hsz hcl' hone hat => exact .row _ _ b c T (hqi.trans hι) hb hsz hcl' hone fun i d j e v hi hj hv => (hat i d j e v hi hj hv).sub hsub
 ·obtain ⟨g1, g2, g3⟩ := hS.stay o' b hb
  refine ⟨g1, ?_, g3⟩
  rw [upd, if_neg (fun he => by subst he; omega)]; exact g2

theorem Zcn (M : List (Nat × Ob)) (h : (M.all fun q => match q.2 with | .gone => false | _ => true) = true) : ∀ o, obOf M o ≠ .gone := by
 intro o
 rcases obOf_cases M o with ⟨h1, _⟩ | ⟨p, h1, h2⟩
 ·rw [h1]; simp
 ·rw [h2]
  simp only [List.all_eq_true] at h
  have := h (o, p) h1
  intro he
  rw [he] at this
  cases this

/-! ### A function's contract -/

def argEnv : Nat → List D → Nat → PV
 | _, [] => fun _ => .unk
 | k, d :: r => upd k (.d d) (argEnv (k + 1) r)

theorem argEnv_at (ds : List D) : ∀ (k t : Nat), argEnv k ds t = if k ≤ t then (match ds[t - k]? with | some d => .d d | none => .unk) else .unk := by
 induction ds with
 | nil => intro k t; simp [argEnv]
 | cons d r ih =>
  intro k t
  simp only [argEnv, upd, ih]
  by_cases h : t = k
  ·subst h; simp
  ·rw [if_neg h]
   by_cases h2 : k ≤ t
   ·rw [if_pos h2, if_pos (by omega), show t - k = (t - (k + 1)) + 1 by omega, List.getElem?_cons_succ]
   ·rw [if_neg h2, if_neg (by omega)]

def ResIs (P : Program) (S : St) : ResultVar → D → Prop
 | .tmp t, d => toD S.objs 4 (S.env t) = some d
 | .cell t T, d => ∃ o sz i c, S.env t = .ptr o sz i c ∧ (tyi P T).ok = true ∧ (ldOb (tyi P T) (S.objs o) sz i c).1 ∧ toD S.objs 4 (ldOb (tyi P T) (S.objs o) sz i c).2 = some d

def ResAll (P : Program) (S : St) : List ResultVar → List D → Prop
 | [], [] => True
 | x :: xs, d :: ds => ResIs P S x d ∧ ResAll P S xs ds
 | _, _ => False

def ResD (P : Program) (rs : List ResultVar) (r : D) (S : St) : Prop :=
 match rs with
 | [x] => ResIs P S x r
 | xs => ∃ ds, r = .tup ds ∧ ResAll P S xs ds

def Post (P : Program) (rs : List ResultVar) (r : D) : Exit → St → Prop
 | .normal, S => ResD P rs r S
 | .ret, S => ResD P rs r S
 | _, _ => False

def resRun (tmps : Array Value) : ResultVar → Sem Value
 | .tmp t => pure (tmps.getD t undef)
 | .cell c t => do loadVar t (← asAddr (tmps.getD c undef))

theorem resIs_at {P : Program} {B X : Nat → Prop} {w0 : W0} {w : World} {n : Nat} {S : St} {a : Act} {ι : Nat → Option Nat} (hS : Hold B X w0 n S a w ι) {x : ResultVar} {d : D} (h : ResIs P S x d) :
  ∃ v, (resRun a.tmps x).run P w = .ok v w ∧ D.At w X d v := by
 cases x with
 | tmp t => exact ⟨_, rfl, toD_view hS (fun _ h => h) 4 _ _ d h (hS.env t)⟩
 | cell t T =>
  obtain ⟨o, sz, i, c, he, hok, hc, hd⟩ := h
  have hp := hS.env t
  rw [he] at hp
  obtain ⟨v, hr, hv⟩ := load_ptr (P := P) hS hp hok hc
  refine ⟨v, ?_, toD_view hS (fun _ h => h) 4 _ v d hd hv⟩
  obtain ⟨va, hva⟩ : ∃ va, a.tmps.getD t undef = va := ⟨_, rfl⟩
  rw [hva] at hp hr
  cases hp
  simp only [Instr.loadAt, Instr.sureAddr, Sem.run_bind, Sem.run_pure, Result.andThen_ok] at hr
  simp only [resRun, hva, asAddr, Sem.run_bind, Sem.run_pure, Result.andThen_ok, hr]

theorem resAll_at {P : Program} {B X : Nat → Prop} {w0 : W0} {w : World} {n : Nat} {S : St} {a : Act} {ι : Nat → Option Nat} (hS : Hold B X w0 n S a w ι) : ∀ (xs : List ResultVar) (ds : List D), ResAll P S xs ds →
  ∃ vs : List Value, (xs.mapM (resRun a.tmps)).run P w = .ok vs w ∧ vs.length = ds.length ∧ xs.length = ds.length ∧
   ∀ (j : Nat) d v, ds[j]? = some d → vs[j]? = some v → D.At w X d v := by
 intro xs
 induction xs with
 | nil =>
  intro ds h
  cases ds with
  | nil => exact ⟨[], rfl, rfl, rfl, by simp⟩
  | cons _ _ => exact h.elim
 | cons x xs ih =>
  intro ds h
  cases ds with
  | nil => exact h.elim
  | cons d ds =>
   obtain ⟨h1, h2⟩ := h
   obtain ⟨v, hr, hv⟩ := resIs_at (P := P) hS h1
   obtain ⟨vs, hrs, hl, hl2, hvs⟩ := ih ds h2
   refine ⟨v :: vs, ?_, by simp [hl], by simp [hl2], fun j e u hj hu => ?_⟩
   ·simp only [List.mapM_cons, Sem.run_bind, hr, Result.andThen_ok, hrs, Sem.run_pure]
   ·cases j with
    | zero => simp at hj hu; subst hj; subst hu; exact hv
    | succ j => exact hvs j e u (by simpa using hj) (by simpa using hu)

theorem resD_at {P : Program} {B X : Nat → Prop} {w0 : W0} {w : World} {n : Nat} {S : St} {a : Act} {ι : Nat → Option Nat} (hS : Hold B X w0 n S a w ι) {fn : Func} {r : D} (h : ResD P fn.results.toList r S) :
  ∃ v, (results fn a.tmps).run P w = .ok v w ∧ D.At w X r v := by
 generalize hrs : fn.results.toList = rs at h
 have hmap : ∀ (vs : List Value), (rs.mapM (resRun a.tmps)).run P w = .ok vs w →
   (results fn a.tmps).run P w = .ok (if hh : vs.toArray.size = 1 then vs.toArray[0] else .tuple vs.toArray) w := by
  intro vs hvs
  have : results fn a.tmps = (do let vs ← fn.results.mapM (resRun a.tmps); pure (if hh : vs.size = 1 then vs[0] else .tuple vs)) := by
   unfold results
   first
    | rfl
    | (congr 1; done)
    | (congr 1; congr 1; funext x; cases x <;> rfl)
  rw [this, Array.mapM_eq_mapM_toList, hrs]
  simp only [Sem.run_bind, Sem.run_map, hvs, Result.andThen_ok, Sem.run_pure]
 match rs, h, hmap with
 | [], ⟨ds, hr, hall⟩, hmap =>
  obtain ⟨vs, h1, h2, h3, h4⟩ := resAll_at (P := P) hS [] ds hall
  refine ⟨_, hmap vs h1, ?_⟩
  subst hr
  rw [dif_neg (by simp; simp at h3; omega)]
  exact .tup ds vs.toArray (by simp [h2]) (fun j d v hj hv => h4 j d v hj (by simpa using hv))
 | [x], h, hmap =>
  obtain ⟨v, h1, h2⟩ := resIs_at (P := P) hS h
  refine ⟨v, ?_, h2⟩
  have := hmap [v] (by simp only [List.mapM_cons, List.mapM_nil, Sem.run_bind, h1, Result.andThen_ok, Sem.run_pure])
  simpa using this
 | x :: y :: zs, ⟨ds, hr, hall⟩, hmap =>
  obtain ⟨vs, h1, h2, h3, h4⟩ := resAll_at (P := P) hS _ ds hall
  refine ⟨_, hmap vs h1, ?_⟩
  subst hr
  rw [dif_neg (by simp at h3 ⊢; omega)]
  exact .tup ds vs.toArray (by simp [h2]) (fun j d v hj hv => h4 j d v hj (by simpa using hv))

theorem Zaf {P : Program} {f : FuncId} {fn : Func} {c : Code} {args : List D} {r : D} (hf : P.funcs[f]? = some fn) (hb : fn.body = some c) (hn : (fn.name == "runtime.NumGoroutine") = false) (hl : args.length ≤ fn.ntmps)
  (h : (∃ w X vs, AtAll w X args vs) → ∀ B X w0, PW P B X w0 fn.ntmps c (Post P fn.results.toList r) ⟨argEnv 0 args, fun _ => .dead⟩) : Zah P f args r := by
 refine ⟨⟨fn, hf, by rw [hb]; rfl, hn⟩, fun w X vs hX hat => ?_⟩
 refine calls_of_wp hf hb ?_
 have hS : Hold (fun b => b < w.heap.size) X ⟨w, fun _ => none⟩ fn.ntmps ⟨argEnv 0 args, fun _ => .dead⟩ { tmps := vs ++ Array.replicate (fn.ntmps - vs.size) undef, defers := [] } w (fun _ => none) := by
  refine ⟨by simp; have := hat.1; omega, rfl, ⟨rfl, rfl, rfl, Nat.le_refl _, fun _ _ => rfl⟩, fun _ h => h, hX, (fun _ _ _ _ _ h => by cases h), (fun _ _ h => by cases h), fun t => ?_, fun o => Ob.At.dead rfl, fun _ _ h => by cases h⟩
  simp only [argEnv_at, Nat.zero_le, if_true, Nat.sub_zero]
  cases hd : args[t]? with
  | none => exact .unk _
  | some d =>
   have hlt : t < vs.size := by have := (List.getElem?_eq_some_iff.1 hd).1; have := hat.1; omega
   have hv : vs[t]? = some vs[t] := Array.getElem?_eq_getElem hlt
   have hg : (vs ++ Array.replicate (fn.ntmps - vs.size) undef).getD t undef = vs[t] := by
    rw [Array.getD_eq_getD_getElem?, Array.getElem?_append_left hlt, hv]; rfl
   simp only [hg]
   refine .d _ _ ((hat.2 t d _ hd hv).sub ?_)
   rintro b (hb | ⟨o, hb⟩)
   ·exact hb
   ·cases hb
 refine wp_mono (h ⟨w, X, vs, hat⟩ _ X _ _ w _ hS) ?_
 rintro e a' w' ⟨S', ι', hq, hS'⟩
 have fin : ResD P fn.results.toList r S' → a'.defers = [] ∧ ∃ v, (results fn a'.tmps).run P w' = .ok v w' ∧ (∃ v', Ending.returned v = .returned v' ∧ D.At w' X r v' ∧ RowKit.Below w.heap.size w w') := by
  intro hr
  obtain ⟨v, h1, h2⟩ := resD_at (P := P) hS' hr
  exact ⟨hS'.defers, v, h1, v, rfl, h2, ⟨hS'.frame.os, hS'.frame.tape, hS'.frame.output, hS'.frame.size, hS'.frame.keep⟩⟩
 cases e with
 | normal => exact fin hq
 | ret => exact fin hq
 | _ => exact hq.elim
/-! ### A function that is handed objects -/

def argEnvM : Nat → List PV → Nat → PV
 | _, [] => fun _ => .unk
 | k, d :: r => upd k d (argEnvM (k + 1) r)

theorem argEnvM_at (ds : List PV) : ∀ (k t : Nat), argEnvM k ds t = if k ≤ t then (match ds[t - k]? with | some d => d | none => .unk) else .unk := by
 induction ds with
 | nil => intro k t; simp [argEnvM]
 | cons d r ih =>
  intro k t
  simp only [argEnvM, upd, ih]
  by_cases h : t = k
  ·subst h; simp
  ·rw [if_neg h]
   by_cases h2 : k ≤ t
   ·rw [if_pos h2, if_pos (by omega), show t - k = (t - (k + 1)) + 1 by omega, List.getElem?_cons_succ]
   ·rw [if_neg h2, if_neg (by omega)]

def ResIsM (P : Program) (S : St) : ResultVar → PV → Prop
 | .tmp t, p => S.env t = p
 | .cell t T, p => ∃ o sz i c, S.env t = .ptr o sz i c ∧ (tyi P T).ok = true ∧ (ldOb (tyi P T) (S.objs o) sz i c).1 ∧ (ldOb (tyi P T) (S.objs o) sz i c).2 = p

def ResAllM (P : Program) (S : St) : List ResultVar → List PV → Prop
 | [], [] => True
 | x :: xs, d :: ds => ResIsM P S x d ∧ ResAllM P S xs ds
 | _, _ => False

def ResM (P : Program) (rs : List ResultVar) (r : PV) (S : St) : Prop :=
 match rs with
 | [x] => ResIsM P S x r
 | xs => ∃ ds, r = .tup ds ∧ ResAllM P S xs ds

def PostM (P : Program) (rs : List ResultVar) (r : PV) (M' : List (Nat × Ob)) : Exit → St → Prop
 | .normal, S => ResM P rs r S ∧ ∀ q ∈ M', S.objs q.1 = q.2
 | .ret, S => ResM P rs r S ∧ ∀ q ∈ M', S.objs q.1 = q.2
 | _, _ => False

theorem resIsM_at {P : Program} {B X : Nat → Prop} {w0 : W0} {w : World} {n : Nat} {S : St} {a : Act} {ι : Nat → Option Nat} (hS : Hold B X w0 n S a w ι) {x : ResultVar} {d : PV} (h : ResIsM P S x d) :
  ∃ v, (resRun a.tmps x).run P w = .ok v w ∧ PV.At w ι X d v := by
 cases x with
 | tmp t => exact ⟨_, rfl, by have := hS.env t; rw [h] at this; exact this⟩
 | cell t T =>
  obtain ⟨o, sz, i, c, he, hok, hc, rfl⟩ := h
  have hp := hS.env t
  rw [he] at hp
  obtain ⟨v, hr, hv⟩ := load_ptr (P := P) hS hp hok hc
  refine ⟨v, ?_, hv⟩
  obtain ⟨va, hva⟩ : ∃ va, a.tmps.getD t undef = va := ⟨_, rfl⟩
  rw [hva] at hp hr
  cases hp
  simp only [Instr.loadAt, Instr.sureAddr, Sem.run_bind, Sem.run_pure, Result.andThen_ok] at hr
  simp only [resRun, hva, asAddr, Sem.run_bind, Sem.run_pure, Result.andThen_ok, hr]

theorem resAllM_at {P : Program} {B X : Nat → Prop} {w0 : W0} {w : World} {n : Nat} {S : St} {a : Act} {ι : Nat → Option Nat} (hS : Hold B X w0 n S a w ι) : ∀ (xs : List ResultVar) (ds : List PV), ResAllM P S xs ds →
  ∃ vs : List Value, (xs.mapM (resRun a.tmps)).run P w = .ok vs w ∧ vs.length = ds.length ∧ xs.length = ds.length ∧
   ∀ (j : Nat) d v, ds[j]? = some d → vs[j]? = some v → PV.At w ι X d v := by
 intro xs
 induction xs with
 | nil =>
  intro ds h
  cases ds with
  | nil => exact ⟨[], rfl, rfl, rfl, by simp⟩
  | cons _ _ => exact h.elim
 | cons x xs ih =>
  intro ds h
  cases ds with
  | nil => exact h.elim
  | cons d ds =>
   obtain ⟨h1, h2⟩ := h
   obtain ⟨v, hr, hv⟩ := resIsM_at (P := P) hS h1
   obtain ⟨vs, hrs, hl, hl2, hvs⟩ := ih ds h2
   refine ⟨v :: vs, ?_, by simp [hl], by simp [hl2], fun j e u hj hu => ?_⟩
   ·simp only [List.mapM_cons, Sem.run_bind, hr, Result.andThen_ok, hrs, Sem.run_pure]
   ·cases j with
    | zero => simp at hj hu; subst hj; subst hu; exact hv
    | succ j => exact hvs j e u (by simpa using hj) (by simpa using hu)

theorem resM_at {P : Program} {B X : Nat → Prop} {w0 : W0} {w : World} {n : Nat} {S : St} {a : Act} {ι : Nat → Option Nat} (hS : Hold B X w0 n S a w ι) {fn : Func} {r : PV} (h : ResM P fn.results.toList r S) :
  ∃ v, (results fn a.tmps).run P w = .ok v w ∧ PV.At w ι X r v := by
 generalize hrs : fn.results.toList = rs at h
 have hmap : ∀ (vs : List Value), (rs.mapM (resRun a.tmps)).run P w = .ok vs w →
   (results fn a.tmps).run P w = .ok (if hh : vs.toArray.size = 1 then vs.toArray[0] else .tuple vs.toArray) w := by
  intro vs hvs
  have : results fn a.tmps = (do let vs ← fn.results.mapM (resRun a.tmps); pure (if hh : vs.size = 1 then vs[0] else .tuple vs)) := by
   unfold results
   first
    | rfl
    | (congr 1; done)
    | (congr 1; congr 1; funext x; cases x <;> rfl)
  rw [this, Array.mapM_eq_mapM_toList, hrs]
  simp only [Sem.run_bind, Sem.run_map, hvs, Result.andThen_ok, Sem.run_pure]
 match rs, h, hmap with
 | [], ⟨ds, hr, hall⟩, hmap =>
  obtain ⟨vs, h1, h2, h3, h4⟩ := resAllM_at (P := P) hS [] ds hall
  refine ⟨_, hmap vs h1, ?_⟩
  subst hr
  rw [dif_neg (by simp; simp at h3; omega)]
  exact .tup ds vs.toArray (by simp [h2]) (fun j d v hj hv => h4 j d v hj (by simpa using hv))
 | [x], h, hmap =>
  obtain ⟨v, h1, h2⟩ := resIsM_at (P := P) hS h
  refine ⟨v, ?_, h2⟩
  have := hmap [v] (by simp only [List.mapM_cons, List.mapM_nil, Sem.run_bind, h1, Result.andThen_ok, Sem.run_pure])
  simpa using this
 | x :: y :: zs, ⟨ds, hr, hall⟩, hmap =>
  obtain ⟨vs, h1, h2, h3, h4⟩ := resAllM_at (P := P) hS _ ds hall
  refine ⟨_, hmap vs h1, ?_⟩
  subst hr
  rw [dif_neg (by simp at h3 ⊢; omega)]
  exact .tup ds vs.toArray (by simp [h2]) (fun j d v hj hv => h4 j d v hj (by simpa using hv))

theorem onlyOb_at {w : World} {ι : Nat → Option Nat} {X : Nat → Prop} {L : List Nat} {ι' : Nat → Option Nat} (hκ : ∀ o ∈ L, ι' o = ι o) (sub : ∀ b, ownX ι' X b → ownX ι X b) {o : Nat} {ob : Ob} (ho : o ∈ L)
  (hon : ob.only L = true) (h : Ob.At w ι X o ob) : Ob.At w ι' X o ob := by
 cases h with
 | dead hd => exact .dead ((hκ o ho).trans hd)
 | gone => exact .gone
 | cells cs b c T hι hb hsz hone hat =>
  simp only [Ob.only, List.all_eq_true] at hon
  exact .cells cs b c T ((hκ o ho).trans hι) hb hsz hone fun j p v hj hv => only_at hκ sub 4 p v (hon p (List.mem_of_getElem? hj)) (hat j p v hj hv)
 | row0 sz hd => exact .row0 sz ((hκ o ho).trans hd)
 | row sz l b c T hι hb hsz hcl hone hat => exact .row sz l b c T ((hκ o ho).trans hι) hb hsz hcl hone fun i d j e v hi hj hv => (hat i d j e v hi hj hv).sub sub
 | imap l b es clock hι hb he => exact .imap l b es clock ((hκ o ho).trans hι) hb he

theorem Zag {P : Program} {f : FuncId} {fn : Func} {c : Code} {args : List PV} {M M' : List (Nat × Ob)} {r : PV} (hf : P.funcs[f]? = some fn) (hb : fn.body = some c) (hn : (fn.name == "runtime.NumGoroutine") = false) (hl : args.length ≤ fn.ntmps)
  (hids : M'.map (·.1) = M.map (·.1)) (hnd : (M.map (·.1)).Nodup) (hro : r.only (M.map (·.1)) 4 = true) (hMo' : (M'.all fun q => q.2.only (M.map (·.1))) = true)
  (hpass : (M.all fun q => (match q.2 with | .dead => true | _ => false) || (decide (1000 ≤ q.1) && decide (q.1 < 2000))) = true)
  (h : ∀ B X w0, PW P B X w0 fn.ntmps c (PostM P fn.results.toList r M') ⟨argEnvM 0 args, obOf M⟩) : Zai P f args M r M' := by
 refine ⟨⟨fn, hf, by rw [hb]; rfl, hn⟩, fun w ι X vs hX hinj hlt hsz hat hobs hdom => ?_⟩
 refine calls_of_wp hf hb ?_
 have hS : Hold (fun b => b < w.heap.size ∧ ∀ o, ι o ≠ some b) X ⟨w, ι⟩ fn.ntmps ⟨argEnvM 0 args, obOf M⟩ { tmps := vs ++ Array.replicate (fn.ntmps - vs.size) undef, defers := [] } w ι := by
  refine ⟨by simp; omega, rfl, ⟨rfl, rfl, rfl, Nat.le_refl _, fun _ _ => rfl⟩, fun _ h => h.1, hX, hinj, fun o b ho => ⟨fun hB => hB.2 o ho, hlt o b ho⟩, fun t => ?_, hobs, fun o b ho => ?_⟩
  ·simp only [argEnvM_at, Nat.zero_le, if_true, Nat.sub_zero]
   cases hd : args[t]? with
   | none => exact .unk _
   | some d =>
    have hlt : t < vs.size := by have := (List.getElem?_eq_some_iff.1 hd).1; omega
    have hv : vs[t]? = some vs[t] := Array.getElem?_eq_getElem hlt
    have hg : (vs ++ Array.replicate (fn.ntmps - vs.size) undef).getD t undef = vs[t] := by
     rw [Array.getD_eq_getD_getElem?, Array.getElem?_append_left hlt, hv]; rfl
    simp only [hg]
    exact hat t d _ hd hv
  ·refine ⟨?_, ho, rfl⟩
   have ho : ι o = some b := ho
   obtain ⟨q, hq, rfl⟩ := List.mem_map.1 (hdom o b ho)
   simp only [List.all_eq_true, Bool.or_eq_true, Bool.and_eq_true, decide_eq_true_eq] at hpass
   rcases hpass q hq with h | h
   ·have hd : q.2 = .dead := by cases hq2 : q.2 <;> rw [hq2] at h <;> simp at h
    have := hobs q.1
    rw [obOf_mem M hnd q hq, hd] at this
    cases this with | dead h => rw [h] at ho; cases ho
   ·exact h
 refine wp_mono (h _ X _ _ w _ hS) ?_
 rintro e a' w' ⟨S', ι', hq, hS'⟩
 have fin : (ResM P fn.results.toList r S' ∧ ∀ q ∈ M', S'.objs q.1 = q.2) → a'.defers = [] ∧ ∃ v, (results fn a'.tmps).run P w' = .ok v w' ∧
   (∃ v' ι'', Ending.returned v = .returned v' ∧ PV.At w' ι'' X r v' ∧ (∀ o, Ob.At w' ι'' X o (obOf M' o)) ∧ (∀ o b, ι'' o = some b → o ∈ M'.map (·.1)) ∧
    (∀ o o' b, obOf M' o ≠ .gone → obOf M' o' ≠ .gone → ι'' o = some b → ι'' o' = some b → o = o') ∧ (∀ o b, ι'' o = some b → ¬ X b ∧ ((∃ o', ι o' = some b) ∨ w.heap.size ≤ b) ∧ b < w'.heap.size) ∧
    w'.os = w.os ∧ w'.tape = w.tape ∧ w'.output = w.output ∧ w.heap.size ≤ w'.heap.size ∧
    (∀ b, b < w.heap.size → (∀ o, ι o ≠ some b) → w'.heap[b]? = w.heap[b]?) ∧
    (∀ o b, ι o = some b → ι'' o = some b ∧ bsz w' b = bsz w b)) := by
  rintro ⟨hr, hM⟩
  obtain ⟨v, h1, h2⟩ := resM_at (P := P) hS' hr
  have subι : ∀ o b, (if o ∈ M.map (·.1) then ι' o else none) = some b → o ∈ M.map (·.1) ∧ ι' o = some b := by
   intro o b h; split at h
   ·rename_i hm; exact ⟨hm, h⟩
   ·cases h
  have sub : ∀ b, ownX (fun o => if o ∈ M.map (·.1) then ι' o else none) X b → ownX ι' X b := by
   rintro b (hb | ⟨o, hb⟩)
   ·exact .inl hb
   ·exact .inr ⟨o, (subι o b hb).2⟩
  have hκ : ∀ o ∈ M.map (·.1), (fun o => if o ∈ M.map (·.1) then ι' o else none) o = ι' o := fun o ho => if_pos ho
  have hMat : ∀ o ∈ M.map (·.1), S'.objs o = obOf M' o := by
   intro o ho
   have ho' : o ∈ M'.map (·.1) := by rw [hids]; exact ho
   obtain ⟨q, hq, rfl⟩ := List.mem_map.1 ho'
   rw [obOf_mem M' (by rw [hids]; exact hnd) q hq, hM q hq]
  refine ⟨hS'.defers, v, h1, v, fun o => if o ∈ M.map (·.1) then ι' o else none, rfl, only_at hκ sub 4 r v hro h2, fun o => ?_, fun o b hb => by rw [hids]; exact (subι o b hb).1,
   fun o o' b f f' e e' => hS'.inj o o' b (by rw [hMat o (subι o b e).1]; exact f) (by rw [hMat o' (subι o' b e').1]; exact f') (subι o b e).2 (subι o' b e').2, fun o b hb => ?_, hS'.frame.os, hS'.frame.tape, hS'.frame.output, hS'.frame.size, fun b hb hn => hS'.frame.keep b ⟨hb, hn⟩, fun o b hb => ?_⟩
  ·by_cases ho : o ∈ M.map (·.1)
   ·have ho' : o ∈ M'.map (·.1) := by rw [hids]; exact ho
    obtain ⟨q, hq, rfl⟩ := List.mem_map.1 ho'
    rw [obOf_mem M' (by rw [hids]; exact hnd) q hq]
    simp only [List.all_eq_true] at hMo'
    have := hS'.objs q.1
    rw [hM q hq] at this
    exact onlyOb_at hκ sub ho (hMo' q hq) this
   ·rw [obOf_no M' o (by rw [hids]; exact ho)]
    exact .dead (if_neg ho)
  ·obtain ⟨g1, g2⟩ := subι o b hb
   obtain ⟨f1, f2⟩ := hS'.free o b g2
   refine ⟨fun hx => f1 (hX b hx), ?_, f2⟩
   by_cases hlt : b < w.heap.size
   ·left
    by_cases hex : ∃ o', ι o' = some b
    ·exact hex
    ·exact absurd ⟨hlt, fun o' ho' => hex ⟨o', ho'⟩⟩ f1
   ·exact .inr (by omega)
  ·obtain ⟨g1, g2, g3⟩ := hS'.stay o b hb
   exact ⟨(if_pos (hdom o b hb)).trans g2, g3⟩
 cases e with
 | normal => exact fin hq
 | ret => exact fin hq
 | _ => exact hq.elim

def nodupB : List Nat → Bool
 | [] => true
 | a :: r => !(r.any fun b => Nat.beq a b) && nodupB r
theorem Zba {l : List Nat} (h : nodupB l = true) : l.Nodup := by
 induction l with
 | nil => exact List.nodup_nil
 | cons a r ih =>
  simp only [nodupB, Bool.and_eq_true, Bool.not_eq_true', List.any_eq_false] at h
  refine List.nodup_cons.2 ⟨fun hm => h.1 a hm (by simp), ih h.2⟩

def gOf : List (Nat × Nat) → Nat → Nat
 | [], i => i
 | (a, b) :: r, i => if i = a then b else gOf r i

theorem run_callMT {P : Program} {own : Nat → Bool} {all rest : List Oper} {S : St} {fs : List Foot} {K : St → List Foot → Prop} {dst : Option Nat} {ty : TypeId} {pos : String} {af : Array Edge} {f : Operand} {as : Array Operand} {tys : Array TypeId}
  (σ : List (Nat × Nat)) {h : FuncId} {caps args : List PV} {M M' : List (Nat × Ob)} {r : PV} (hc : Zai P h args M r M') (hf : caps? (S.ev f) = some (h, caps))
  (hids : M'.map (·.1) = M.map (·.1)) (hao : (args.all (PV.only (M.map (·.1)) 4)) = true) (hMo : (M.all fun q => q.2.only (M.map (·.1))) = true)
  (hro : r.only (M.map (·.1)) 4 = true) (hMo' : (M'.all fun q => q.2.only (M.map (·.1))) = true) (hnd : (M.map fun q => gOf σ q.1).Nodup)
  (hng : ∀ q ∈ M, q.2 ≠ .gone ∧ (2000 ≤ q.1 → q.2 = .dead))
  (hx : ArgFit S.objs (gOf σ) False (as.toList.map S.ev ++ caps) args) (hobs : ∀ q ∈ M, S.objs (gOf σ q.1) = q.2.ren (gOf σ))
  (hk : Zax P own all rest (S.app dst ⟨r.ren (gOf σ), renM (gOf σ) M', (as.toList.map S.ev ++ caps).flatMap (PV.refs S.objs 4)⟩) (((as.toList.map S.ev ++ caps).flatMap (PV.refs S.objs 4), (renM (gOf σ) M').map (·.1)) :: fs) K) :
  Zax P own all (⟨dst, .call ⟨.value f, as, tys⟩, ty, pos, af, none⟩ :: rest) S fs K :=
 run_callM _ ⟨⟨h, caps, args, M, M', r, gOf σ, False, hf, hx, hc, hids, hao, hMo, hro, hMo', hnd, hobs, fun q hq => (hng q hq).2, fun q hq => (hng q hq).1, fun h => h.elim, rfl⟩⟩ hk
theorem ent_ren {S : St} (σ : List (Nat × Nat)) (L : List (Nat × PV)) (M : List (Nat × Ob)) (h1 : ∀ p ∈ L, S.env p.1 = p.2.ren (gOf σ)) (h2 : ∀ q ∈ M, S.objs (gOf σ q.1) = q.2.ren (gOf σ))
  (h3 : (L.all fun p => p.2.only (M.map (·.1)) 4) = true) (h4 : (M.all fun q => q.2.only (M.map (·.1))) = true) (h5 : (M.map fun q => gOf σ q.1).Nodup)
  (h6 : (M.all fun q => ((decide (q.1 < 1000) || decide (2000 ≤ q.1)) && (decide (gOf σ q.1 < 1000) || decide (2000 ≤ gOf σ q.1))) || decide (gOf σ q.1 = q.1)) = true) (h7 : Zbj (M.map (·.1)) S.objs) : Ent S ⟨envOf L, obOf M⟩ := by
 intro B X w0 n a w ι hS
 simp only [List.all_eq_true, Bool.or_eq_true, Bool.and_eq_true, decide_eq_true_eq] at h3 h4 h6
 have h6' : ∀ o ∈ M.map (·.1), ((o < 1000 ∨ 2000 ≤ o) ∧ (gOf σ o < 1000 ∨ 2000 ≤ gOf σ o)) ∨ gOf σ o = o := by
  intro o ho
  obtain ⟨q, hq, rfl⟩ := List.mem_map.1 ho
  exact h6 q hq
 have hinj : ∀ i ∈ M.map (·.1), ∀ j ∈ M.map (·.1), gOf σ i = gOf σ j → i = j := by
  have : ∀ (M : List (Nat × Ob)), (M.map fun q => gOf σ q.1).Nodup → ∀ i ∈ M.map (·.1), ∀ j ∈ M.map (·.1), gOf σ i = gOf σ j → i = j := by
   intro M
   induction M with
   | nil => intro _ i hi; cases hi
   | cons p M ih =>
    intro hn i hi j hj he
    simp only [List.map_cons, List.nodup_cons] at hn
    simp only [List.map_cons, List.mem_cons] at hi hj
    have key : ∀ j ∈ M.map (·.1), gOf σ p.1 ≠ gOf σ j := by
     intro j hj he
     obtain ⟨q, hq, rfl⟩ := List.mem_map.1 hj
     exact hn.1 (List.mem_map.2 ⟨q, hq, he.symm⟩)
    rcases hi with rfl | hi <;> rcases hj with rfl | hj
    ·rfl
    ·exact absurd he (key j hj)
    ·exact absurd he.symm (key i hi)
    ·exact ih hn.2 i hi j hj he
  exact this M h5
 let ι' : Nat → Option Nat := fun o => if o ∈ M.map (·.1) then ι (gOf σ o) else none
 have hκ : ∀ o ∈ M.map (·.1), ι' o = ι (gOf σ o) := fun o ho => if_pos ho
 have sub : ∀ o b, ι' o = some b → o ∈ M.map (·.1) ∧ ι (gOf σ o) = some b := by
  intro o b h
  by_cases ho : o ∈ M.map (·.1)
  ·rw [hκ o ho] at h; exact ⟨ho, h⟩
  ·simp only [ι', if_neg ho] at h; cases h
 have subX : ∀ b, ownX ι' X b → ownX ι X b := by
  rintro b (hb | ⟨o, hb⟩)
  ·exact .inl hb
  ·exact .inr ⟨_, (sub o b hb).2⟩
 have live : ∀ o ∈ M.map (·.1), obOf M o ≠ .gone → S.objs (gOf σ o) ≠ .gone := by
  intro o ho hg
  rcases obOf_cases M o with ⟨h, hno⟩ | ⟨p, hp, h⟩
  ·exact absurd ho hno
  ·rw [h2 (o, p) hp]
   rw [h] at hg
   exact fun he => hg (ren_gone.1 he)
 refine ⟨ι', hS.size, hS.defers, hS.frame, hS.hB, hS.hXB, fun o o' b f f' e e' => ?_, fun o b e => hS.free _ b (sub o b e).2, fun t => ?_, fun o => ?_, fun o b hb => ?_⟩
 ·obtain ⟨g1, g2⟩ := sub o b e
  obtain ⟨g3, g4⟩ := sub o' b e'
  exact hinj o g1 o' g3 (hS.inj _ _ b (live o g1 f) (live o' g3 f') g2 g4)
 ·rcases envOf_cases L t with h | ⟨p, hp, h⟩
  ·simp only [h]; exact .unk _
  ·simp only [h]
   have := hS.env t
   rw [h1 (t, p) hp] at this
   exact ren_in hκ subX 4 p _ (h3 (t, p) hp) this
 ·rcases obOf_cases M o with ⟨h, hno⟩ | ⟨p, hp, h⟩
  ·simp only [h]; exact .dead (if_neg hno)
  ·simp only [h]
   have hmem : o ∈ M.map (·.1) := List.mem_map.2 ⟨(o, p), hp, rfl⟩
   have ho := hS.objs (gOf σ o)
   rw [h2 (o, p) hp] at ho
   exact renOb_in hκ subX hmem (h4 (o, p) hp) ho
 ·obtain ⟨g1, g2, g3⟩ := hS.stay o b hb
  refine ⟨g1, ?_, g3⟩
  by_cases ho : o ∈ M.map (·.1)
  ·rw [hκ o ho]
   rcases h6' o ho with h | h
   ·omega
   ·rw [h]; exact g2
  ·have := hS.dead (h7 o g1.1 g1.2 ho)
   rw [this] at g2; cases g2
theorem entL_ren {S : St} (σ : List (Nat × Nat)) (L : List (Nat × PV)) (M : List (Nat × Ob)) (h1 : ∀ p ∈ L, S.env p.1 = p.2.ren (gOf σ)) (h2 : ∀ q ∈ M, S.objs (gOf σ q.1) = q.2.ren (gOf σ))
  (h3 : (L.all fun p => p.2.only (M.map (·.1)) 4) = true) (h4 : (M.all fun q => q.2.only (M.map (·.1))) = true) (h5 : (M.map fun q => gOf σ q.1).Nodup)
  (h6 : (M.all fun q => ((decide (q.1 < 1000) || decide (2000 ≤ q.1)) && (decide (gOf σ q.1 < 1000) || decide (2000 ≤ gOf σ q.1))) || decide (gOf σ q.1 = q.1)) = true) (h7 : Zbj (M.map (·.1)) S.objs) : EntL S L M :=
 ent_ren σ L M h1 h2 h3 h4 h5 h6 h7
theorem ent_iff {S S' : St} : Ent S S' ↔ ∀ (B X : Nat → Prop) (w0 : W0) (n : Nat) (a : Act) (w : World) (ι : Nat → Option Nat), Hold B X w0 n S a w ι → ∃ ι', Hold B X w0 n S' a w ι' := Iff.rfl
attribute [irreducible] PW Ent EntL
end Go.PS
