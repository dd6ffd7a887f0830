/- A region, in whatever order the model draws. -/
import Derived.Test.YtpmmikkojpcogaaPSRegion2
namespace Go.PS
open Go

section
variable {P : Program} {own : Nat → Bool} {objs objs' : Nat → Ob} {B X : Nat → Prop} {w0 : W0} {w : World} {n : Nat} {S : St} {a : Act} {ι : Nat → Option Nat} {ops : Array Oper}

theorem argFit_congr {g : Nat → Nat} {fl : Prop} : ∀ (xs ps : List PV), (∀ o ∈ xs.flatMap (PV.refs objs 4), objs' o = objs o) → ArgFit objs g fl xs ps → ArgFit objs' g fl xs ps := by
  intro xs
  induction xs with
  | nil => intro ps _ h; cases ps with
           | nil => trivial
           | cons => exact h.elim
  | cons x xs ih =>
    intro ps hr h
    cases ps with
    | nil => exact h.elim
    | cons p ps =>
      simp only [List.flatMap_cons, List.mem_append] at hr
      obtain ⟨h1, h2⟩ := toD_congr (objs := objs) (objs' := objs') 4 x (fun o ho => hr o (.inl ho))
      refine ⟨?_, ih ps (fun o ho => hr o (.inr ho)) h.2⟩
      rw [h1, h2]; exact h.1

theorem callCondM_congr {f : PV} {xs : List PV} {e : Eff} (ha : Agree e objs objs') (h : CallCondM P objs f xs e) : CallCondM P objs' f xs e := by
  obtain ⟨h, caps, args, M, M', r, g, fl, hfv, hargs, hcalls, hids, hao, hMo, hro, hMo', hnd, hobs, h2000, hng, hflat, rfl⟩ := h
  have hrd : ∀ o ∈ (xs ++ caps).flatMap (PV.refs objs 4), objs' o = objs o := ha.1
  refine ⟨h, caps, args, M, M', r, g, fl, hfv, argFit_congr _ _ hrd hargs, hcalls, hids, hao, hMo, hro, hMo', hnd, fun q hq => ?_, h2000, hng, fun hfl => ⟨(hflat hfl).1, fun x hx o ho => ?_⟩, ?_⟩
  · rw [← hobs q hq]
    have hq' : q.1 ∈ M'.map (·.1) := by rw [hids]; exact List.mem_map_of_mem hq
    obtain ⟨q', hq', he⟩ := List.mem_map.1 hq'
    have := ha.2 (g q'.1, q'.2.ren g) (List.mem_map.2 ⟨q', hq', rfl⟩)
    rw [← he]; exact this
  · have := (toD_congr (objs := objs) (objs' := objs') 4 x (fun o ho => hrd o (List.mem_flatMap.2 ⟨x, hx, ho⟩))).2
    rw [this] at ho
    exact (hflat hfl).2 x hx o ho
  · rw [(toDs_congr (objs := objs) (objs' := objs') 4 _ hrd).2]

theorem does1_congr {o : Oper} {S S' : St} {e : Eff} (hev : ∀ x ∈ o.op.operands, S'.ev x = S.ev x) (ha : Agree e S.objs S'.objs) (h : Does1 P own o S e) : Does1 P own o S' e := by
  obtain ⟨dst, op, ty, pos, af, gd⟩ := o
  simp only at hev
  have plain : (sem P own S.ev S.objs dst op).1 ∧ e = (sem P own S.ev S.objs dst op).2 → (sem P own S'.ev S'.objs dst op).1 ∧ e = (sem P own S'.ev S'.objs dst op).2 := by
    rintro ⟨h1, rfl⟩
    rw [sem_congr hev h1 ha]
    exact ⟨h1, rfl⟩
  cases op with
  | call c =>
    obtain ⟨cal, as, tys⟩ := c
    cases cal with
    | value f =>
      have hf : S'.ev f = S.ev f := hev f (by simp [Op.operands, Call.operands])
      have hm : as.toList.map S'.ev = as.toList.map S.ev := List.map_congr_left fun x hx => hev x (by simp [Op.operands, Call.operands]; right; simpa using hx)
      rcases h.symm with hc | ⟨r, hc, rfl⟩
      · refine .inr ?_
        show CallCondM P S'.objs (S'.ev f) (as.toList.map S'.ev) e
        rw [hf, hm]
        exact callCondM_congr ha hc
      obtain ⟨h1, h2⟩ := toDs_congr (objs := S.objs) (objs' := S'.objs) 4 (as.toList.map S.ev) ha.1
      refine .inl ⟨r, ?_, ?_⟩
      · unfold CallCond at hc ⊢
        rw [hf, hm, h1, h2]; exact hc
      · simp only [hm, h2]
    | builtin b => exact plain h
    | invoke r m => exact plain h
  | _ => exact plain h

theorem does_congr {all : List Oper} {o : Oper} {S S' : St} {e : Eff} (hev : ∀ x ∈ o.op.operands, S'.ev x = S.ev x) (hgd : ∀ j w, o.guard = some (j, w) → grd all S' j = grd all S j) (ha : Agree e S.objs S'.objs)
    (h : Does P own all o S e) : Does P own all o S' e := by
  unfold Does at h ⊢
  cases hg : o.guard with
  | none => rw [hg] at h; exact does1_congr hev ha h
  | some q =>
    obtain ⟨j, want⟩ := q
    rw [hg] at h
    obtain ⟨b, hb, h⟩ := h
    refine ⟨b, (hgd j want hg).trans hb, ?_⟩
    by_cases hw : b = some want
    · rw [if_pos hw] at h ⊢; exact does1_congr hev ha h
    · rw [if_neg hw] at h ⊢; exact h

/-- Two operations that may change places. -/
def compat (ops : Array Oper) (x y : Oper) (fx fy : Foot) : Bool :=
  x.apart ops y && fx.2.all (fun o => !fy.1.contains o && !fy.2.contains o) && fy.2.all (fun o => !fx.1.contains o)

theorem app_env {S : St} {dst : Option Nat} {e : Eff} (t : Nat) (h : dst ≠ some t) : (S.app dst e).env t = S.env t := by
  unfold St.app
  cases dst with
  | none => rfl
  | some d => exact if_neg (fun he => h (by rw [he]))

theorem app_objs {S : St} {dst : Option Nat} {e : Eff} (o : Nat) (h : o ∉ e.wr.map (·.1)) : (S.app dst e).objs o = S.objs o := wrs_no _ _ o h

theorem ev_app {ops : Array Oper} {S : St} {dst : Option Nat} {e : Eff} {y : Oper} (h : ∀ d, dst = some d → d ∉ y.looksAt ops) : ∀ x ∈ y.op.operands, (S.app dst e).ev x = S.ev x := by
  intro x hx
  cases x with
  | tmp t =>
    refine app_env t (fun he => h t he ?_)
    simp only [Oper.looksAt, List.mem_append, List.mem_filterMap]
    exact .inl ⟨.tmp t, by simpa using hx, rfl⟩
  | _ => rfl

theorem grd_app {ops : Array Oper} {S : St} {dst : Option Nat} {e : Eff} {y : Oper} (h : ∀ d, dst = some d → d ∉ y.looksAt ops) : ∀ j w, y.guard = some (j, w) → grd ops.toList (S.app dst e) j = grd ops.toList S j := by
  intro j wnt hg
  unfold grd
  simp only [Array.getElem?_toList]
  cases ht : (ops[j]?).bind (·.dst) with
  | none => rfl
  | some t =>
    simp only
    rw [app_env t]
    intro he
    refine h t he ?_
    simp only [Oper.looksAt, List.mem_append, hg]
    right
    simp only [ht, Option.toList_some, List.mem_singleton]

theorem wrs_upd {objs : Nat → Ob} {o : Nat} {ob : Ob} : ∀ (l : List (Nat × Ob)), o ∉ l.map (·.1) → wrs l (upd o ob objs) = upd o ob (wrs l objs) := by
  intro l
  induction l with
  | nil => intro _; rfl
  | cons q l ih =>
    intro h
    simp only [List.map_cons, List.mem_cons, not_or] at h
    show upd q.1 q.2 (wrs l (upd o ob objs)) = upd o ob (upd q.1 q.2 (wrs l objs))
    rw [ih h.2]
    funext i
    simp only [upd]
    by_cases c1 : i = q.1
    · subst c1; rw [if_pos rfl, if_neg (fun he => h.1 he.symm), if_pos rfl]
    · rw [if_neg c1, if_neg c1]

theorem wrs_comm : ∀ (l1 l2 : List (Nat × Ob)) (objs : Nat → Ob), (∀ o ∈ l1.map (·.1), o ∉ l2.map (·.1)) → wrs l2 (wrs l1 objs) = wrs l1 (wrs l2 objs) := by
  intro l1
  induction l1 with
  | nil => intro l2 objs _; rfl
  | cons q l1 ih =>
    intro l2 objs h
    show wrs l2 (upd q.1 q.2 (wrs l1 objs)) = upd q.1 q.2 (wrs l1 (wrs l2 objs))
    rw [wrs_upd l2 (h q.1 (by simp)), ih l2 objs (fun o ho => h o (by simp only [List.map_cons, List.mem_cons]; exact .inr ho))]

theorem app_comm {S : St} {d1 d2 : Option Nat} {e1 e2 : Eff} (hd : ∀ d, d1 = some d → d2 ≠ some d) (hw : ∀ o ∈ e1.wr.map (·.1), o ∉ e2.wr.map (·.1)) :
    (S.app d1 e1).app d2 e2 = (S.app d2 e2).app d1 e1 := by
  unfold St.app
  simp only
  congr 1
  · cases d1 with
    | none => rfl
    | some t1 =>
      cases d2 with
      | none => rfl
      | some t2 =>
        have hne : t1 ≠ t2 := fun he => hd t1 rfl (by rw [he])
        funext i
        simp only [upd]
        by_cases c1 : i = t1
        · subst c1; rw [if_neg hne, if_pos rfl, if_pos rfl]
        · rw [if_neg c1, if_neg c1]
  · exact wrs_comm _ _ _ hw

theorem swap {x y : Oper} {ex ey : Eff} {S : St} (hx : Does P own ops.toList x S ex) (hy : Does P own ops.toList y (S.app x.dst ex) ey) (hc : compat ops x y ex.foot ey.foot = true) :
    Does P own ops.toList y S ey ∧ Does P own ops.toList x (S.app y.dst ey) ex ∧ (S.app x.dst ex).app y.dst ey = (S.app y.dst ey).app x.dst ex := by
  unfold compat at hc
  simp only [Bool.and_eq_true, Eff.foot, Bool.not_eq_true', List.all_eq_true] at hc
  obtain ⟨⟨hap, h1⟩, h2⟩ := hc
  obtain ⟨p1, p2, p3⟩ := Oper.apart_spec hap
  have w1 : ∀ o ∈ ex.wr.map (·.1), o ∉ ey.rd ∧ o ∉ ey.wr.map (·.1) := by
    intro o hw
    have := h1 o hw
    simp only [List.contains_eq_mem, decide_eq_false_iff_not] at this
    exact this
  have w2 : ∀ o ∈ ey.wr.map (·.1), o ∉ ex.rd := by
    intro o hw
    have := h2 o hw
    simpa using this
  have agy : Agree ey (S.app x.dst ex).objs S.objs :=
    ⟨fun o ho => (app_objs o (fun hw => (w1 o hw).1 ho)).symm, fun q hq => (app_objs q.1 (fun hw => (w1 q.1 hw).2 (List.mem_map_of_mem hq))).symm⟩
  have agx : Agree ex S.objs (S.app y.dst ey).objs :=
    ⟨fun o ho => app_objs o (fun hw => w2 o hw ho), fun q hq => app_objs q.1 (fun hw => (w1 q.1 (List.mem_map_of_mem hq)).2 hw)⟩
  exact ⟨does_congr (fun q hq => (ev_app p1 q hq).symm) (fun j w hg => (grd_app p1 j w hg).symm) agy hy, does_congr (ev_app p3) (grd_app p3) agx hx,
    app_comm p2 (fun o ho => (w1 o ho).2)⟩

/-- A run by the operations' numbers. -/
def RunsI (P : Program) (own : Nat → Bool) (ops : Array Oper) (E : Nat → Eff) : List Nat → St → St → Prop
  | [], S, S' => S' = S
  | i :: rest, S, S' => ∃ o, ops[i]? = some o ∧ Does P own ops.toList o S (E i) ∧ RunsI P own ops E rest (S.app o.dst (E i)) S'

theorem runs_es {all : List Oper} : ∀ (l : List Oper) (S S' : St) (fs : List Foot), Runs P own all l S S' fs → ∃ es : List Eff, es.length = l.length ∧ fs = es.map Eff.foot ∧
    ∀ (E : Nat → Eff) (k : Nat) (ops : Array Oper), ops.toList = all → (∀ j o, l[j]? = some o → ops[k + j]? = some o) → (∀ j e, es[j]? = some e → E (k + j) = e) → RunsI P own ops E (List.range' k l.length) S S' := by
  intro l
  induction l with
  | nil => rintro S S' fs ⟨rfl, rfl⟩; exact ⟨[], rfl, rfl, fun E k ops _ _ _ => rfl⟩
  | cons o rest ih =>
    rintro S S' fs ⟨e, fs', h1, h2, rfl⟩
    obtain ⟨es, hl, rfl, hr⟩ := ih _ _ _ h2
    refine ⟨e :: es, by simp [hl], rfl, fun E k ops hall hops hE => ?_⟩
    simp only [List.length_cons, List.range'_succ]
    have hEk : E k = e := hE 0 e rfl
    refine ⟨o, hops 0 o rfl, by rw [hall, hEk]; exact h1, ?_⟩
    rw [hEk]
    exact hr E (k + 1) ops hall (fun j q hj => by rw [show k + 1 + j = k + (j + 1) by omega]; exact hops (j + 1) q (by simpa using hj)) (fun j q hj => by rw [show k + 1 + j = k + (j + 1) by omega]; exact hE (j + 1) q (by simpa using hj))

theorem front {E : Nat → Eff} {k : Nat} {ok : Oper} (hk : ops[k]? = some ok) : ∀ (pre post : List Nat) (S Sf : St), RunsI P own ops E (pre ++ k :: post) S Sf → (∀ i ∈ pre, ∀ oi, ops[i]? = some oi → compat ops oi ok (E i).foot (E k).foot = true) →
    Does P own ops.toList ok S (E k) ∧ RunsI P own ops E (pre ++ post) (S.app ok.dst (E k)) Sf := by
  intro pre
  induction pre with
  | nil =>
    rintro post S Sf ⟨o, ho, h1, h2⟩ _
    rw [hk] at ho; cases ho
    exact ⟨h1, h2⟩
  | cons i pre ih =>
    rintro post S Sf ⟨o, ho, h1, h2⟩ hc
    obtain ⟨h3, h4⟩ := ih post _ Sf h2 (fun j hj => hc j (List.mem_cons_of_mem _ hj))
    obtain ⟨g1, g2, g3⟩ := swap h1 h3 (hc i (by simp) o ho)
    refine ⟨g1, o, ho, g2, ?_⟩
    rw [← g3]; exact h4

/-- What must be done before. -/
theorem before_spec (ops : Array Oper) (Ls : Nat → Prop) (hcl : ∀ k o, Ls k → ops[k]? = some o → ∀ e ∈ o.after, Region.binds .any e = true → e.on < k ∧ Ls e.on) :
    ∀ k o, ops[k]? = some o → (∀ e ∈ o.after, Region.binds .any e = true → e.on < k ∧ Ls e.on) → ∀ i, ((Region.before ops).getD k 0).testBit i = true → Ls i := by
  have main : ∀ (l : List Oper) (m : Nat) (acc : Array Nat), acc.size = m → (∀ j o, l[j]? = some o → ops[m + j]? = some o) →
      (∀ k o, k < m → ops[k]? = some o → (∀ e ∈ o.after, Region.binds .any e = true → e.on < k ∧ Ls e.on) → ∀ i, (acc.getD k 0).testBit i = true → Ls i) →
      ∀ k o, k < m + l.length → ops[k]? = some o → (∀ e ∈ o.after, Region.binds .any e = true → e.on < k ∧ Ls e.on) →
        ∀ i, ((l.foldl (fun acc o => acc.push (o.after.foldl (fun s e => if Region.binds .any e then s ||| 2 ^ e.on ||| acc.getD e.on 0 else s) 0)) acc).getD k 0).testBit i = true → Ls i := by
    intro l
    induction l with
    | nil => intro m acc _ _ hacc k o hk; simpa using hacc k o (by simpa using hk)
    | cons q l ih =>
      intro m acc hm hl hacc k o hk
      simp only [List.foldl_cons]
      refine ih (m + 1) _ (by simp [hm]) (fun j o' hj => by rw [show m + 1 + j = m + (j + 1) by omega]; exact hl (j + 1) o' (by simpa using hj)) ?_ k o (by simp at hk; omega)
      intro k o hk hok he i hi
      by_cases hkm : k < m
      · refine hacc k o hkm hok he i ?_
        rw [Array.getD_eq_getD_getElem?, Array.getElem?_push, if_neg (by omega)] at hi
        rw [Array.getD_eq_getD_getElem?]; exact hi
      · have hkm : k = m := by omega
        subst hkm
        have hq : ops[k]? = some q := by have := hl 0 q rfl; simpa using this
        rw [hq] at hok; cases hok
        rw [Array.getD_eq_getD_getElem?, Array.getElem?_push, if_pos hm.symm] at hi
        simp only [Option.getD_some] at hi
        rw [← Array.foldl_toList] at hi
        have fold : ∀ (es : List Edge) (s : Nat), (∀ e ∈ es, Region.binds .any e = true → e.on < k ∧ Ls e.on) → (s.testBit i = true → Ls i) → (es.foldl (fun s e => if Region.binds .any e then s ||| 2 ^ e.on ||| acc.getD e.on 0 else s) s).testBit i = true → Ls i := by
          intro es
          induction es with
          | nil => intro s _ hs h; exact hs h
          | cons e es ihe =>
            intro s hes hs h
            simp only [List.foldl_cons] at h
            refine ihe _ (fun e' he' => hes e' (List.mem_cons_of_mem _ he')) ?_ h
            intro h'
            split at h'
            · rename_i hb
              simp only [Nat.testBit_or, Bool.or_eq_true] at h'
              obtain ⟨hlt, hLs⟩ := hes e (by simp) hb
              rcases h' with (h' | h') | h'
              · exact hs h'
              · have : i = e.on := by
                  rw [Nat.testBit_two_pow] at h'
                  simpa [eq_comm] using h'
                rw [this]; exact hLs
              · have hsome : e.on < ops.size := by
                  have := (Array.getElem?_eq_some_iff.1 hq).1; omega
                exact hacc e.on ops[e.on] hlt (Array.getElem?_eq_getElem hsome) (hcl e.on _ hLs (Array.getElem?_eq_getElem hsome)) i h'
            · exact hs h'
        exact fold _ 0 (fun e he' => he e (by simpa using he')) (by simp) hi
  intro k o hok he i hi
  unfold Region.before at hi
  rw [← Array.foldl_toList] at hi
  have hk := (Array.getElem?_eq_some_iff.1 hok).1
  exact main ops.toList 0 #[] rfl (fun j o' hj => by simpa using hj) (fun k o hk => by omega) k o (by simpa using hk) hok he i hi

/-- What is asked of a region and its footprints. -/
def okRegion (n : Nat) (ops : Array Oper) (draw : Bool) (fs : List Foot) : Bool :=
  ops.toList.all (Oper.plain n) &&
  (!draw || (ops.toList.zipIdx.all (fun q => q.1.after.toList.all fun e => !Region.binds .any e || decide (e.on < q.2)) &&
    (List.range ops.size).all fun k => (List.range k).all fun i => ((Region.before ops).getD k 0).testBit i || (match ops[i]?, ops[k]? with
      | some x, some y => compat ops x y (fs.getD i ([], [])) (fs.getD k ([], []))
      | _, _ => false)))
end
end Go.PS
