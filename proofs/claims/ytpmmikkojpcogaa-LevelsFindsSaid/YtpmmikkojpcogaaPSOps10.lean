/- append, and the other built-in functions, in the state. -/
import Derived.Test.YtpmmikkojpcogaaPSOps9
namespace Go.PS
open Go

section hold
variable {P : Program} {B X : Nat → Prop} {w0 : W0} {w : World} {n : Nat} {S : St} {a : Act} {ι : Nat → Option Nat} {dst : Option Nat} {ty : TypeId} {pos : String} {af : Array Edge} {gd : Option (Nat × Bool)}

theorem ownX_upd {o b0 : Nat} {b : Nat} (hb : ownX (upd o (some b0) ι) X b) : ownX ι X b ∨ b = b0 := by
  rcases hb with hb | ⟨o', hb⟩
  · exact .inl (.inl hb)
  · by_cases he : o' = o
    · subst he; rw [upd, if_pos rfl] at hb; cases hb; exact .inr rfl
    · rw [upd, if_neg he] at hb; exact .inl (.inr ⟨o', hb⟩)

theorem drew_below : RowKit.Below w.heap.size w w.drew := ⟨rfl, rfl, rfl, Nat.le_refl _, fun _ _ => rfl⟩

/-- The new array of an append becomes an object. -/
theorem append_new (hS : Hold B X w0 n S a w ι) {o : Oper} {t : Nat} (hdst : o.dst = some t) (ht : t < n) (hdead : S.objs t = .dead) {e : TypeId} {z : Value} {sz cap : Nat} {l xs : List D} {olds news : List Value}
    (hr : (execOp a.eval o).run P w = .ok (.value (.slice (some ⟨w.heap.size, 0, none⟩) (l.length + xs.length) cap)) (w.drew.alloc (.cells (olds.toArray ++ news.toArray ++ Builtin.zeroCells z.cells (cap - (l.length + xs.length))) e)))
    (hcap : l.length + xs.length ≤ cap) (hcm : cap ≤ maxLen) (hzs : z.cells.size = sz) (hz1 : ∀ v ∈ z.cells.toList, v.oneCell' = true)
    (hol : olds.length = l.length * sz) (hnl : news.length = xs.length * sz) (hcl : ∀ d, d ∈ l ++ xs → d.cells.length = sz) (ho1 : ∀ u ∈ olds, u.oneCell' = true) (hn1 : ∀ u ∈ news, u.oneCell' = true)
    (hoat : ∀ (i : Nat) d (j : Nat) e u, l[i]? = some d → d.cells[j]? = some e → olds[i * sz + j]? = some u → D.At w (ownX ι X) e u)
    (hnat : ∀ (i : Nat) d (j : Nat) e u, xs[i]? = some d → d.cells[j]? = some e → news[i * sz + j]? = some u → D.At w (ownX ι X) e u) :
    Goes P B X w0 n o (S.app o.dst { val := .ref t sz 0 (l.length + xs.length) (l.length + xs.length), wr := [(t, .row sz (l ++ xs))] }) a w := by
  obtain ⟨g1, g2, g3⟩ := row_new (w := w) (k := (cap - (l.length + xs.length)) * sz) hol hnl hcl ho1 hn1 (zeroCells_one hz1) hoat hnat (by rw [size_zeroCells, hzs])
  generalize hw' : w.drew.alloc (.cells (olds.toArray ++ news.toArray ++ Builtin.zeroCells z.cells (cap - (l.length + xs.length))) e) = w' at hr
  generalize olds.toArray ++ news.toArray ++ Builtin.zeroCells z.cells (cap - (l.length + xs.length)) = arr at *
  have hold : ∀ b, b < w.heap.size → w'.heap[b]? = w.heap[b]? := fun b hb => by subst hw'; exact heap_alloc_old w.drew _ hb
  have hnew : w'.heap[w.heap.size]? = some (.cells arr e (0, 0)) := by subst hw'; exact heap_alloc_new w.drew _
  have hsz : w'.heap.size = w.heap.size + 1 := by subst hw'; simp
  have hob : Ob.At w' (upd t (some w.heap.size) ι) X t (.row sz (l ++ xs)) :=
    .row sz (l ++ xs) w.heap.size arr e (if_pos rfl) hnew (by rw [g1]; omega) hcl g2 fun i d j e v hi hj hv =>
      (g3 i d j e v hi hj hv).mono (fun b hb => (ownX_upd hb).imp id (fun h => by omega)) (fun b hb _ => hold b hb)
  have h1 := hS.alloc hdead w' (by subst hw'; rfl) (by subst hw'; rfl) (by subst hw'; rfl) hsz hold _ hob
  refine ⟨_, _, upd t (some w.heap.size) ι, .inl hr, ?_⟩
  have h2 := h1.put (dst := o.dst) (x := .ref t sz 0 (l.length + xs.length) (l.length + xs.length)) (v := .slice (some ⟨w.heap.size, 0 * sz, none⟩) (l.length + xs.length) cap) (fun u hu => by rw [hdst] at hu; cases hu; exact ht)
    (.ref t sz 0 _ _ cap w.heap.size (if_pos rfl) hcap hcap hcm (by
      simp only [bsz, hnew, g1, List.length_append, Nat.zero_add, ← Nat.add_mul]
      congr 1; omega))
  rw [Nat.zero_mul] at h2
  rw [hdst] at h2 ⊢
  exact h2

/-- Afterwards the old object is gone. -/
theorem Goes.gone {o : Oper} {t q : Nat} {v : PV} {ob : Ob} (hne : t ≠ q) (h : Goes P B X w0 n o (S.app o.dst { val := v, wr := [(t, ob)] }) a w) :
    Goes P B X w0 n o (S.app o.dst { val := v, wr := [(t, ob), (q, .gone)] }) a w := by
  obtain ⟨v', w', ι', h1, h2⟩ := h
  refine ⟨v', w', ι', h1, ?_⟩
  have h3 := h2.gone q
  have e : upd q Ob.gone (S.app o.dst { val := v, wr := [(t, ob)] }).objs = (S.app o.dst { val := v, wr := [(t, ob), (q, .gone)] }).objs := by
    funext i
    simp only [St.app, wrs, upd]
    by_cases h1 : i = q
    · subst h1; rw [if_pos rfl, if_neg (fun h => hne h.symm), if_pos rfl]
    · by_cases h2 : i = t
      · subst h2; rw [if_neg h1, if_pos rfl, if_pos rfl]
      · simp only [if_neg h1, if_neg h2]
  rw [e] at h3
  exact h3

theorem sim_append (hS : Hold B X w0 n S a w ι) {t u : TypeId} {s x : Operand} (hd : ∀ t, dst = some t → t < n) (hs : constOk s = true) (hx : constOk x = true)
    (hc : (semAppend S.objs dst (tyi P t) (tyi P u) (tyi P (tyi P t).elem) (S.ev s) (S.ev x)).1) :
    Goes P B X w0 n ⟨dst, .call ⟨.builtin .append, #[s, x], #[t, u]⟩, ty, pos, af, gd⟩ (S.app dst (semAppend S.objs dst (tyi P t) (tyi P u) (tyi P (tyi P t).elem) (S.ev s) (S.ev x)).2) a w := by
  obtain ⟨xs, t', hxs, hdst, hdead, hk1, hk2, hz, hby, hcl, hcase⟩ := semAppend_cond hc
  have ht'n : t' < n := hd t' hdst
  have ht := kind1 hk1
  have hu := kind1 hk2
  obtain ⟨ie, z, hie, hiz, hzs, hisz, hiby, hz1, hne, hzz, _⟩ := zok_of hz
  generalize he : (tyi P (tyi P t).elem) = ety at *
  have hps := hS.ev hs
  have hpx := hS.ev hx
  have hxr := reads_pv (P := P) hS hpx hxs hcl
  have hSd := hS.ext (w' := w.drew) drew_below
  have hxrd := reads_pv (P := P) hSd (hSd.ev hx) hxs hcl
  obtain ⟨xb, xc, news, hxv, hnl, hf, hn1, hnat⟩ := hxr
  obtain ⟨xb', xc', news', hxv', hnl', hf', hn1', hnat'⟩ := hxrd
  have hexec : ∀ (sv : Value), a.eval s = sv → ∀ v w', (Builtin.append_ #[t, u] ty #[sv, a.eval x]).run P w = .ok v w' →
      (execOp a.eval ⟨dst, .call ⟨.builtin .append, #[s, x], #[t, u]⟩, ty, pos, af, gd⟩).run P w = .ok (.value v) w' := by
    intro sv hsv v w' hr
    simp only [execOp, resolve, invoke, builtin, Sem.run_bind, Sem.run_pure, Result.andThen_ok, List.map_toArray, List.map_cons, List.map_nil, hsv, hr]
  have hxx : ∃ b c, a.eval x = .slice b xs.length c := ⟨xb, xc, hxv⟩
  have rdrop : ∀ (q : St) (r : List Nat) (v : PV) (wr : List (Nat × Ob)), q.app dst { val := v, wr := wr, rd := r } = q.app dst { val := v, wr := wr } := fun q r v wr => rfl
  rcases hcase with ⟨o, sz, len, cap, l, hsv, hob, rfl, hlen, hroom, heq⟩ | ⟨hsv, hroom, heq⟩
  · rw [heq, rdrop]
    rw [hsv] at hps
    have hto : t' ≠ o := fun he => by rw [he, hob] at hdead; cases hdead
    generalize hva : a.eval s = va at hps
    have hoo := hS.objs o
    rw [hob] at hoo
    cases hps with
    | ref0 _ _ _ base =>
      -- the slice has no room at all
      refine Goes.gone (P := P) (o := ⟨dst, .call ⟨.builtin .append, #[s, x], #[t, u]⟩, ty, pos, af, gd⟩) hto ?_
      by_cases hm : xs.length = 0
      · have hx0 : xs = [] := List.eq_nil_of_length_eq_zero hm
        subst hx0
        have hn0 : news = [] := List.eq_nil_of_length_eq_zero (by simpa using hnl)
        subst hn0
        have hr : (Builtin.append_ #[t, u] ty #[.slice base 0 0, a.eval x]).run P w = .ok (.slice base 0 0) w := by
          rw [hxv] at hf ⊢
          cases base with
          | none => simp [Builtin.append_, run_underlying ht, run_underlying hu, sizeOf, typeInfo, hie, Builtin.lenOf, hisz] at hf ⊢; simp [hf]
          | some b => simp [Builtin.append_, run_underlying ht, run_underlying hu, sizeOf, typeInfo, hie, Builtin.lenOf, hisz, storeCells] at hf ⊢; simp [hf, storeCells]
        have h1 : Hold B X w0 n { env := S.env, objs := upd t' (.row ety.size (l.take 0 ++ [])) S.objs } a w ι :=
          hS.change none t' _ ι w rfl rfl rfl (Nat.le_refl _) (fun _ _ => rfl) (fun _ h => h) (fun b hb => by cases hb) (fun _ _ _ => rfl) (fun b hb => by rw [hS.dead hdead] at hb; cases hb) (.row0 _ (hS.dead hdead))
        refine ⟨_, _, ι, .inl (hexec _ hva _ _ hr), ?_⟩
        rw [hdst] at hd ⊢
        exact h1.put (dst := some t') hd (.ref0 t' ety.size 0 base)
      · have hr := run_append_new (P := P) (w := w) (ty' := ty) ht hu hie hiz (base := base) (len := 0) (cap := 0) (m := xs.length) (x := a.eval x) (olds := []) (news := news') ⟨xb, xc, hxv⟩
          (by cases base <;> simp [Builtin.firstCells, loadCells, loadCellsFrom]) (by rw [hisz]; exact hf') (by omega) (by omega) (by omega)
        have := append_new (P := P) (o := ⟨dst, .call ⟨.builtin .append, #[s, x], #[t, u]⟩, ty, pos, af, gd⟩) hS hdst ht'n hdead (l := []) (xs := xs) (olds := []) (news := news') (sz := ety.size) (z := z) (e := (tyi P t).elem) (cap := grownCap w (0 + xs.length) 0 (tyi P t).elem)
          (by simpa using hexec _ hva _ _ hr) (by simpa using grownCap_ge w (0 + xs.length) 0 (tyi P t).elem) (grownCap_le_maxLen w _ _ _ (by simp only [maxLen]; omega)) hzs hz1 (by simp) hnl' (by simpa using hcl) (by simp) hn1' (by simp)
          (fun i d j e v hi hj hv => (hnat' i d j e v hi hj hv).mono (fun b hb => .inl hb) (fun _ _ _ => rfl))
        simpa using this
    | ref _ _ _ _ _ capr b hι hl hcc hm hss =>
      cases hoo with
      | row0 _ h => rw [h] at hι; cases hι
      | row _ _ b' c T hι' hb hsz hcl' hone h =>
        rw [hι] at hι'; cases hι'
        simp only [Nat.zero_add, bsz, hb] at hss
        have hlc : len * ety.size ≤ c.size := Nat.le_trans (Nat.mul_le_mul_right _ hlen) hsz
        -- what the slice holds
        have holds : (Builtin.firstCells ety.size len (.slice (some ⟨b, 0, none⟩) len capr)).run P w.drew = .ok (c.toList.take (len * ety.size)).toArray w.drew := by
          refine run_firstCells_some (P := P) w.drew ety.size len ⟨b, 0, none⟩ len capr _ (by simp; omega) (fun j v hj => ?_)
          rw [List.getElem?_take] at hj
          split at hj
          · rw [add_at, Nat.zero_add, cell_arr (w := w.drew) hb]; simpa using hj
          · cases hj
        have hol : (c.toList.take (len * ety.size)).length = (l.take len).length * ety.size := by
          simp only [List.length_take, Array.length_toList, Nat.min_eq_left hlen]; omega
        have hcl2 : ∀ d, d ∈ l.take len ++ xs → d.cells.length = ety.size := by
          intro d hd'
          rcases List.mem_append.1 hd' with hd' | hd'
          · exact hcl' d (List.mem_of_mem_take hd')
          · exact hcl d hd'
        have hlt : (l.take len).length = len := by simp; omega
        have hoat : ∀ (i : Nat) d (j : Nat) e v, (l.take len)[i]? = some d → d.cells[j]? = some e → (c.toList.take (len * ety.size))[i * ety.size + j]? = some v → D.At w (ownX ι X) e v := by
          intro i d j e v hi hj hv
          rw [List.getElem?_take] at hi hv
          split at hi
          · split at hv
            · exact h i d j e v hi hj (by simpa using hv)
            · cases hv
          · cases hi
        have ho1 : ∀ v ∈ c.toList.take (len * ety.size), v.oneCell' = true := fun v hv => by
          obtain ⟨j, hj⟩ := List.getElem?_of_mem (List.mem_of_mem_take hv)
          exact hone j v (by simpa using hj)
        simp only [Nat.zero_mul] at hva
        by_cases hfit : len + xs.length ≤ capr
        · -- there is room
          have hfc : len * ety.size + news.length ≤ c.size := by rw [hnl, ← hss, ← Nat.add_mul]; exact Nat.mul_le_mul_right _ hfit
          have hr := run_append_in (P := P) (w := w) (ty' := ty) ht hu hie hb (x := a.eval x) (news := news) (len := len) (cap := capr) ⟨xb, xc, hxv⟩ (by rw [hisz]; exact hf) (by rw [hisz]; exact hnl) hn1 hfit (by rw [hisz]; exact hfc)
          rw [hisz] at hr
          have hob' : Ob.At (w.setRow b (c.toList.take (len * ety.size) ++ news ++ c.toList.drop (len * ety.size + news.length)).toArray) (upd t' (some b) ι) X t' (.row ety.size (l.take len ++ xs)) := by
            have hX1 : ∀ b', ownX (upd t' (some b) ι) X b' → ownX ι X b' := fun b' hb' => (ownX_upd hb').elim id (fun he => he ▸ .inr ⟨o, hι⟩)
            refine .row _ _ b _ T (if_pos rfl) (setRow_heap w b c _ T (0, 0) hb) ?_ hcl2 (fun j v hj => ?_) (fun i d j e v hi hj hv => ?_)
            · rw [size_splice _ _ _ hfc, List.length_append, hlt, Nat.add_mul]; omega
            · rw [arr_splice _ _ _ hfc] at hj
              split at hj
              · exact hone j v hj
              · split at hj
                · exact hn1 v (List.mem_of_getElem? hj)
                · exact hone j v hj
            · refine (D.At.store hS hι hb (size_splice _ _ _ hfc) ?_).sub hX1
              have hil := (List.getElem?_eq_some_iff.1 hi).1
              have hjs : j < ety.size := by rw [← hcl2 d (List.mem_of_getElem? hi)]; exact (List.getElem?_eq_some_iff.1 hj).1
              rw [arr_splice _ _ _ hfc] at hv
              rw [List.getElem?_append, hlt] at hi
              rw [List.length_append, hlt] at hil
              by_cases hcs : i < len
              · rw [if_pos hcs] at hi
                have : (i + 1) * ety.size ≤ len * ety.size := Nat.mul_le_mul_right _ hcs
                rw [Nat.add_mul] at this
                rw [if_pos (by omega)] at hv
                rw [List.getElem?_take, if_pos hcs] at hi
                exact h i d j e v hi hj hv
              · rw [if_neg hcs] at hi
                have h1 : len * ety.size ≤ i * ety.size := Nat.mul_le_mul_right _ (by omega)
                have h2 : (i + 1) * ety.size ≤ (len + xs.length) * ety.size := Nat.mul_le_mul_right _ hil
                rw [Nat.add_mul, Nat.add_mul] at h2
                rw [if_neg (by omega), if_pos (by omega)] at hv
                have heq2 : i * ety.size + j - len * ety.size = (i - len) * ety.size + j := by rw [Nat.sub_mul]; omega
                rw [heq2] at hv
                exact hnat (i - len) d j e v hi hj hv
          have h0 := hS.gone o
          have hdead0 : ({ env := S.env, objs := upd o .gone S.objs } : St).objs t' = .dead := by simp only [upd, if_neg hto]; exact hdead
          have h1 := h0.change (some b) t' (.row ety.size (l.take len ++ xs)) (upd t' (some b) ι) (w.setRow b (c.toList.take (len * ety.size) ++ news ++ c.toList.drop (len * ety.size + news.length)).toArray) rfl rfl rfl (by simp)
            (fun o' hne => if_neg hne) (fun b' hb' => by rw [h0.dead hdead0] at hb'; cases hb')
            (fun b' hb' => by
              cases hb'
              refine ⟨⟨o, hι⟩, fun o' hne hg ho' => ?_, by simp only [bsz, hb, setRow_heap w b c _ T (0, 0) hb, size_splice _ _ _ hfc]⟩
              have hne2 : o' ≠ o := fun he => hg (by subst he; exact if_pos rfl)
              simp only [upd, if_neg hne2] at hg
              exact hne2 (hS.inj o' o b hg (by rw [hob]; simp) ho' hι))
            (fun b' _ hne => setRow_other w b b' _ (fun he => hne (by rw [he])))
            (fun b' hb' => by
              rw [upd, if_pos rfl] at hb'; cases hb'
              refine ⟨.inr (.inr ⟨⟨o, hι⟩, fun o' hne hg ho' => ?_⟩), by rw [setRow_size]; exact (hS.free o b hι).2⟩
              have hne2 : o' ≠ o := fun he => hg (by subst he; exact if_pos rfl)
              simp only [upd, if_neg hne2] at hg
              exact hne2 (hS.inj o' o b hg (by rw [hob]; simp) ho' hι)) hob'
          refine ⟨_, _, upd t' (some b) ι, .inl (hexec _ hva _ _ hr), ?_⟩
          have h2 := h1.put (dst := dst) (x := .ref t' ety.size 0 (len + xs.length) (len + xs.length)) (v := .slice (some ⟨b, 0 * ety.size, none⟩) (len + xs.length) capr) hd
            (.ref t' ety.size 0 _ _ capr b (if_pos rfl) hfit hfit hm (by simp only [bsz, setRow_heap w b c _ T (0, 0) hb, size_splice _ _ _ hfc, Nat.zero_add, hss]))
          rw [Nat.zero_mul] at h2
          exact h2
        · -- a new array
          refine Goes.gone (P := P) (o := ⟨dst, .call ⟨.builtin .append, #[s, x], #[t, u]⟩, ty, pos, af, gd⟩) hto ?_
          have hr := run_append_new (P := P) (w := w) (ty' := ty) ht hu hie hiz (base := some ⟨b, 0, none⟩) (len := len) (cap := capr) (m := xs.length) (x := a.eval x) (olds := c.toList.take (len * ety.size)) (news := news') ⟨xb, xc, hxv⟩
            (by rw [hisz]; exact holds) (by rw [hisz]; exact hf') (by omega) (by omega) (by omega)
          have := append_new (P := P) (o := ⟨dst, .call ⟨.builtin .append, #[s, x], #[t, u]⟩, ty, pos, af, gd⟩) hS hdst ht'n hdead (l := l.take len) (xs := xs) (olds := c.toList.take (len * ety.size)) (news := news') (sz := ety.size) (z := z) (e := (tyi P t).elem) (cap := grownCap w (len + xs.length) capr (tyi P t).elem)
            (by rw [hlt]; exact hexec _ hva _ _ hr) (by rw [hlt]; exact grownCap_ge w _ _ _) (grownCap_le_maxLen w _ _ _ (by simp only [maxLen]; omega)) hzs hz1 hol hnl' hcl2 ho1 hn1' hoat
            (fun i d j e v hi hj hv => (hnat' i d j e v hi hj hv).mono (fun b hb => .inl hb) (fun _ _ _ => rfl))
          rw [hlt] at this
          exact this
  · rw [heq, rdrop]
    have hva : ∃ base, a.eval s = .slice base 0 0 := by
      generalize a.eval s = va at hps
      rcases hsv with h | h <;> rw [h] at hps <;> cases hps <;> exact ⟨_, rfl⟩
    obtain ⟨base, hva⟩ := hva
    by_cases hm : xs.length = 0
    · have hx0 : xs = [] := List.eq_nil_of_length_eq_zero hm
      subst hx0
      have hn0 : news = [] := List.eq_nil_of_length_eq_zero (by simpa using hnl)
      subst hn0
      have hr : (Builtin.append_ #[t, u] ty #[.slice base 0 0, a.eval x]).run P w = .ok (.slice base 0 0) w := by
        rw [hxv] at hf ⊢
        cases base with
        | none => simp [Builtin.append_, run_underlying ht, run_underlying hu, sizeOf, typeInfo, hie, Builtin.lenOf, hisz] at hf ⊢; simp [hf]
        | some b => simp [Builtin.append_, run_underlying ht, run_underlying hu, sizeOf, typeInfo, hie, Builtin.lenOf, hisz, storeCells] at hf ⊢; simp [hf, storeCells]
      have h1 : Hold B X w0 n { env := S.env, objs := upd t' (.row ety.size []) S.objs } a w ι :=
        hS.change none t' _ ι w rfl rfl rfl (Nat.le_refl _) (fun _ _ => rfl) (fun _ h => h) (fun b hb => by cases hb) (fun _ _ _ => rfl) (fun b hb => by rw [hS.dead hdead] at hb; cases hb) (.row0 _ (hS.dead hdead))
      refine ⟨_, _, ι, .inl (hexec _ hva _ _ hr), ?_⟩
      rw [hdst] at hd ⊢
      exact h1.put (dst := some t') hd (.ref0 t' ety.size 0 base)
    · have hr := run_append_new (P := P) (w := w) (ty' := ty) ht hu hie hiz (base := base) (len := 0) (cap := 0) (m := xs.length) (x := a.eval x) (olds := []) (news := news') ⟨xb, xc, hxv⟩
        (by cases base <;> simp [Builtin.firstCells, loadCells, loadCellsFrom]) (by rw [hisz]; exact hf') (by omega) (by omega) (by omega)
      have := append_new (P := P) (o := ⟨dst, .call ⟨.builtin .append, #[s, x], #[t, u]⟩, ty, pos, af, gd⟩) hS hdst ht'n hdead (l := []) (xs := xs) (olds := []) (news := news') (sz := ety.size) (z := z) (e := (tyi P t).elem) (cap := grownCap w (0 + xs.length) 0 (tyi P t).elem)
        (by simpa using hexec _ hva _ _ hr) (by simpa using grownCap_ge w (0 + xs.length) 0 (tyi P t).elem) (grownCap_le_maxLen w _ _ _ (by simp only [maxLen]; omega)) hzs hz1 (by simp) hnl' (by simpa using hcl) (by simp) hn1' (by simp)
        (fun i d j e v hi hj hv => (hnat' i d j e v hi hj hv).mono (fun b hb => .inl hb) (fun _ _ _ => rfl))
      simpa using this

theorem sim_builtin (hS : Hold B X w0 n S a w ι) {b : Builtin} {as : Array Operand} {tys : Array TypeId} (hd : ∀ t, dst = some t → t < n) (hx : ∀ x ∈ as.toList, constOk x = true)
    (hc : (semBuiltin P S.objs dst b tys.toList (as.toList.map S.ev)).1) :
    Goes P B X w0 n ⟨dst, .call ⟨.builtin b, as, tys⟩, ty, pos, af, gd⟩ (S.app dst (semBuiltin P S.objs dst b tys.toList (as.toList.map S.ev)).2) a w := by
  obtain ⟨as⟩ := as
  obtain ⟨tys⟩ := tys
  simp only at hx hc ⊢
  unfold semBuiltin at hc ⊢
  split at hc
  · -- len
    rename_i t x he
    obtain ⟨y, rfl, rfl⟩ : ∃ y, as = [y] ∧ S.ev y = x := by
      match as, he with
      | [y], he => exact ⟨y, rfl, by simpa using he⟩
    have hp := hS.ev (hx y (by simp))
    cases hl : lenPV (S.ev y) with
    | none => rw [hl] at hc; exact hc.elim
    | some m =>
      rw [hl] at hc
      simp only
      rw [app_v]
      obtain ⟨bb, cc, hv⟩ := len_at hp hl
      have hu := kind1 hc
      refine hS.goes (v := .int .i64 m) hd ?_ (.d _ _ (.sc _ rfl))
      simp [execOp, resolve, invoke, builtin, hv, Builtin.len_, run_underlying hu, goInt]
  · -- min
    rename_i p q he
    obtain ⟨y, z, rfl, e1, e2⟩ : ∃ y z, as = [y, z] ∧ S.ev y = .d (.sc (.int .i64 p)) ∧ S.ev z = .d (.sc (.int .i64 q)) := by
      match as, he with
      | [y, z], he => simp at he; exact ⟨y, z, rfl, he.1, he.2⟩
      | [], he => simp at he
      | [_], he => simp at he
      | _ :: _ :: _ :: _, he => simp at he
    have h1 := hS.ev (hx y (by simp))
    have h2 := hS.ev (hx z (by simp))
    rw [e1] at h1
    rw [e2] at h2
    simp only
    rw [app_v]
    refine hS.goes (v := .int .i64 (if q < p then q else p)) hd ?_ (.d _ _ (.sc _ rfl))
    simp [execOp, resolve, invoke, builtin, d_int h1, d_int h2, Builtin.min_, Builtin.min2]
  · -- max
    rename_i p q he
    obtain ⟨y, z, rfl, e1, e2⟩ : ∃ y z, as = [y, z] ∧ S.ev y = .d (.sc (.int .i64 p)) ∧ S.ev z = .d (.sc (.int .i64 q)) := by
      match as, he with
      | [y, z], he => simp at he; exact ⟨y, z, rfl, he.1, he.2⟩
      | [], he => simp at he
      | [_], he => simp at he
      | _ :: _ :: _ :: _, he => simp at he
    have h1 := hS.ev (hx y (by simp))
    have h2 := hS.ev (hx z (by simp))
    rw [e1] at h1
    rw [e2] at h2
    simp only
    rw [app_v]
    refine hS.goes (v := .int .i64 (if p < q then q else p)) hd ?_ (.d _ _ (.sc _ rfl))
    simp [execOp, resolve, invoke, builtin, d_int h1, d_int h2, Builtin.max_, Builtin.max2]
  · -- min of three
    rename_i p q r he
    obtain ⟨y, z, x, rfl, e1, e2, e3⟩ : ∃ y z x, as = [y, z, x] ∧ S.ev y = .d (.sc (.int .i64 p)) ∧ S.ev z = .d (.sc (.int .i64 q)) ∧ S.ev x = .d (.sc (.int .i64 r)) := by
      match as, he with
      | [y, z, x], he => simp at he; exact ⟨y, z, x, rfl, he.1, he.2.1, he.2.2⟩
      | [], he => simp at he
      | [_], he => simp at he
      | [_, _], he => simp at he
      | _ :: _ :: _ :: _ :: _, he => simp at he
    have h1 := hS.ev (hx y (by simp))
    have h2 := hS.ev (hx z (by simp))
    have h3 := hS.ev (hx x (by simp))
    rw [e1] at h1
    rw [e2] at h2
    rw [e3] at h3
    simp only
    rw [app_v]
    refine hS.goes (v := .int .i64 (if r < (if q < p then q else p) then r else (if q < p then q else p))) hd ?_ (.d _ _ (.sc _ rfl))
    simp [execOp, resolve, invoke, builtin, d_int h1, d_int h2, d_int h3, Builtin.min_, Builtin.min2]
  · -- max of three
    rename_i p q r he
    obtain ⟨y, z, x, rfl, e1, e2, e3⟩ : ∃ y z x, as = [y, z, x] ∧ S.ev y = .d (.sc (.int .i64 p)) ∧ S.ev z = .d (.sc (.int .i64 q)) ∧ S.ev x = .d (.sc (.int .i64 r)) := by
      match as, he with
      | [y, z, x], he => simp at he; exact ⟨y, z, x, rfl, he.1, he.2.1, he.2.2⟩
      | [], he => simp at he
      | [_], he => simp at he
      | [_, _], he => simp at he
      | _ :: _ :: _ :: _ :: _, he => simp at he
    have h1 := hS.ev (hx y (by simp))
    have h2 := hS.ev (hx z (by simp))
    have h3 := hS.ev (hx x (by simp))
    rw [e1] at h1
    rw [e2] at h2
    rw [e3] at h3
    simp only
    rw [app_v]
    refine hS.goes (v := .int .i64 (if (if p < q then q else p) < r then r else (if p < q then q else p))) hd ?_ (.d _ _ (.sc _ rfl))
    simp [execOp, resolve, invoke, builtin, d_int h1, d_int h2, d_int h3, Builtin.max_, Builtin.max2]
  · -- append
    rename_i t u s x he
    obtain ⟨y, z, rfl, rfl, rfl⟩ : ∃ y z, as = [y, z] ∧ S.ev y = s ∧ S.ev z = x := by
      match as, he with
      | [y, z], he => simp at he; exact ⟨y, z, rfl, he.1, he.2⟩
    exact sim_append hS hd (hx y (by simp)) (hx z (by simp)) hc
  · exact hc.elim

/-- What is asked of an operation's text: its constants are plain, a store has no place to put a value. -/
def Oper.plain (n : Nat) (o : Oper) : Bool :=
  o.op.operands.toList.all constOk && (match o.dst with | some t => decide (t < n) | none => true) && (match o.op with | .store .. => o.dst.isNone | _ => true)

theorem sim_sem (hS : Hold B X w0 n S a w ι) {own : Nat → Bool} (o : Oper) (hpl : Oper.plain n o = true) (hc : (sem P own S.ev S.objs o.dst o.op).1) :
    Goes P B X w0 n o (S.app o.dst (sem P own S.ev S.objs o.dst o.op).2) a w := by
  obtain ⟨dst, op, ty, pos, af, gd⟩ := o
  simp only [Oper.plain, Bool.and_eq_true, List.all_eq_true] at hpl
  obtain ⟨⟨hops, hdst⟩, hst⟩ := hpl
  have hd : ∀ t, dst = some t → t < n := by rintro t rfl; simpa using hdst
  simp only at hc hops hst ⊢
  cases op with
  | move x => exact sim_move hS hd (hops x (by simp [Op.operands]))
  | assign x => exact sim_assign hS hd (hops x (by simp [Op.operands]))
  | pick c x y => exact sim_pick hS hd (hops c (by simp [Op.operands])) (hops x (by simp [Op.operands])) (hops y (by simp [Op.operands])) hc
  | alloc T => exact sim_alloc hS hd hc
  | box T x => exact sim_box hS hd (hops x (by simp [Op.operands])) hc
  | build T ps => exact sim_build hS hd (fun p hp => hops p.2 (by simp only [Op.operands, List.mem_map]; exact ⟨p, hp, rfl⟩)) hc
  | buildSlice T m ps => exact sim_buildSlice hS hd (fun p hp => hops p.2 (by simp only [Op.operands, List.mem_map]; exact ⟨p, hp, rfl⟩)) hc
  | load T x => exact sim_load hS hd (hops x (by simp [Op.operands])) hc
  | store T x y => exact sim_store hS (by simpa using hst) (hops x (by simp [Op.operands])) (hops y (by simp [Op.operands])) hc
  | fieldAddr T x f => exact sim_field hS hd (hops x (by simp [Op.operands])) hc
  | indexAddr T x i => exact sim_index hS hd (hops x (by simp [Op.operands])) (hops i (by simp [Op.operands])) hc
  | binOp op T x y T' => exact sim_bin hS hd (hops x (by simp [Op.operands])) (hops y (by simp [Op.operands])) hc
  | unOp op T x => exact sim_un hS hd (hops x (by simp [Op.operands])) hc
  | slice T x lo hi mx => exact sim_slice hS hd (hops x (by simp [Op.operands])) (fun y hy => hops y (by subst hy; simp [Op.operands])) (fun y hy => hops y (by subst hy; simp [Op.operands])) (fun y hy => hops y (by subst hy; simp [Op.operands])) hc
  | extract x i => exact sim_extract hS hd (hops x (by simp [Op.operands])) hc
  | nilCheck x => exact sim_nilCheck hS hd (hops x (by simp [Op.operands])) hc
  | makeSlice T l c => exact sim_makeSlice hS hd (hops l (by simp [Op.operands])) (hops c (by simp [Op.operands])) hc
  | makeFunc fn fi ca => exact sim_makeFunc hS hd (fun x hx => hops x (by simp only [Op.operands, Array.toList_append, List.mem_append]; exact .inr hx)) hc
  | call c =>
    obtain ⟨cal, as, tys⟩ := c
    cases cal with
    | builtin b => exact sim_builtin hS hd (fun x hx => hops x (by simp only [Op.operands, Call.operands]; simpa using hx)) hc
    | _ => exact hc.elim
  | _ => exact hc.elim
end hold
end Go.PS
