/- Binary operations. -/
import Derived.Test.YtpmmikkojpcogaaPSOps3b
namespace Go.PS
open Go

section hold
variable {P : Program} {B X : Nat → Prop} {w0 : W0} {w : World} {n : Nat} {S : St} {a : Act} {ι : Nat → Option Nat} {dst : Option Nat} {ty : TypeId} {pos : String} {af : Array Edge} {gd : Option (Nat × Bool)}

theorem run_guard_ints (op : BinOp) (t : TypeId) (x y : Operand) (p q : Int) : (eqGuard op t x y (.int .i64 p) (.int .i64 q)).run P w = .ok () w := by
  cases op <;> simp [eqGuard]
theorem run_guard_bools (op : BinOp) (t : TypeId) (x y : Operand) (p q : Bool) : (eqGuard op t x y (.bool p) (.bool q)).run P w = .ok () w := by
  cases op <;> simp [eqGuard]

theorem run_bin_ints (op : BinOp) (t : TypeId) (p q : Int) (hc : (binI op p q).1) : (binOp op t (.int .i64 p) (.int .i64 q)).run P w = .ok (binI op p q).2 w := by
  cases op
  case and => rfl
  case or => rfl
  case xor => rfl
  case andNot => rfl
  all_goals (simp [binI] at hc ⊢; simp [binOp, Op.intArith, Op.intDiv, Op.intCmp, Op.shift, IntKind.bits, hc])
  all_goals first
    | rfl
    | (intro h; exact absurd h (by omega))
    | (rw [Bool.eq_iff_iff]; simp)

theorem run_shift_u64 (op : BinOp) (t : TypeId) (p q : Int) (ho : op = .shl ∨ op = .shr) (hc : (binI op p q).1) : (binOp op t (.int .i64 p) (.int .u64 q)).run P w = .ok (binI op p q).2 w := by
  rcases ho with rfl | rfl
  all_goals (simp [binI] at hc ⊢; simp [binOp, Op.shift, IntKind.bits])
  all_goals (intro h; exact absurd h (by omega))

theorem binI_one (op : BinOp) (p q : Int) : (binI op p q).2.oneCell' = true := by cases op <;> rfl

theorem PV.At.agg {p : PV} {v : Value} {cs : List PV} (h : PV.At w ι X p v) (hc : p.agg? = some cs) :
    ∃ arr, v = .agg arr ∧ arr.size = cs.length ∧ ∀ (j : Nat) q u, cs[j]? = some q → arr[j]? = some u → PV.At w ι X q u := by
  cases h with
  | ag cs' arr hsz hone h => cases hc; exact ⟨arr, rfl, hsz, h⟩
  | d x v h =>
    cases h with
    | ag cs' arr hsz hone h =>
      cases hc
      refine ⟨arr, rfl, by simpa using hsz, fun j q u hq hu => ?_⟩
      rw [List.getElem?_map] at hq
      cases hj : cs'[j]? with
      | none => rw [hj] at hq; cases hq
      | some d => rw [hj] at hq; cases hq; exact .d _ _ (h j d u hj hu)
    | _ => cases hc
  | _ => cases hc

theorem run_eqFields {xs ys : Array Value} {cs ds : List PV} (hx : xs.size = cs.length) (hy : ys.size = ds.length)
    (h1 : ∀ (j : Nat) q u, cs[j]? = some q → xs[j]? = some u → PV.At w ι X q u) (h2 : ∀ (j : Nat) q u, ds[j]? = some q → ys[j]? = some u → PV.At w ι X q u) (d : Nat) :
    ∀ (fs : List Field) (k : Nat) (t : Bool), plainFields P k fs = true → fs.length + k = cs.length → eqCells (cs.drop k) (ds.drop k) = some t →
      (Op.eqFields (d + 1) xs ys fs).run P w = .ok t w := by
  intro fs
  induction fs with
  | nil =>
    intro k t _ hl he
    have hk : cs.drop k = [] := by apply List.drop_eq_nil_of_le; simp at hl; omega
    rw [hk] at he
    cases hd : ds.drop k with
    | nil => rw [hd] at he; cases he; rfl
    | cons q r => rw [hd] at he; simp [eqCells] at he
  | cons f fs ih =>
    intro k t hp hl he
    simp only [plainFields, Bool.and_eq_true, bne_iff_ne, ne_eq, beq_iff_eq] at hp
    obtain ⟨⟨⟨hn, ho⟩, hu⟩, hp⟩ := hp
    have hk : k < cs.length := by simp at hl; omega
    have hck : cs.drop k = cs[k] :: cs.drop (k + 1) := List.drop_eq_getElem_cons hk
    rw [hck] at he
    cases hdd : ds.drop k with
    | nil =>
      rw [hdd] at he
      cases hq : cs[k] <;> rw [hq] at he <;> simp [eqCells] at he
    | cons q r =>
      have hkd : k < ds.length := by
        have := congrArg List.length hdd
        simp at this; omega
      have hdk : ds.drop k = ds[k] :: ds.drop (k + 1) := List.drop_eq_getElem_cons hkd
      rw [hdk] at he
      have ha := h1 k cs[k] xs[k] (List.getElem?_eq_getElem hk) (Array.getElem?_eq_getElem (by omega))
      have hb := h2 k ds[k] ys[k] (List.getElem?_eq_getElem hkd) (Array.getElem?_eq_getElem (by omega))
      have hxk : xs[k]? = some xs[k] := Array.getElem?_eq_getElem (by omega)
      have hyk : ys[k]? = some ys[k] := Array.getElem?_eq_getElem (by omega)
      have hagg : (isAgg f.type).run P w = .ok false w := by
        simp only [isAgg]
        cases hq : P.underlying f.type with
        | none => rw [hq] at hu; cases hu
        | some dd =>
          rw [hq] at hu
          simp only [Sem.run_bind, run_underlying hq, Result.andThen_ok]
          cases dd <;> simp at hu <;> rfl
      have px : (part f.type xs f.offset).run P w = .ok xs[k] w := by simp [part, hagg, ho, hxk]
      have py : (part f.type ys f.offset).run P w = .ok ys[k] w := by simp [part, hagg, ho, hyk]
      have core : ∀ (r1 : Bool) (t' : Bool), (Op.equalIn (d + 1) f.type xs[k] ys[k]).run P w = .ok r1 w → eqCells (cs.drop (k + 1)) (ds.drop (k + 1)) = some t' → t = (r1 && t') →
          (Op.eqFields (d + 1) xs ys (f :: fs)).run P w = .ok t w := by
        intro r1 t' hr he' ht
        simp only [Op.eqFields, ne_eq, hn, not_false_eq_true, if_true, Sem.run_bind, px, py, Result.andThen_ok, hr]
        cases r1
        · simp [ht]
        · simp only [Bool.not_true, Bool.false_eq_true, if_false]
          rw [ih (k + 1) t' hp (by simp at hl ⊢; omega) he', ht]; simp
      generalize cs[k] = pk at he ha
      generalize ds[k] = qk at he hb
      generalize xs[k] = xk at ha core
      generalize ys[k] = yk at hb core
      unfold eqCells at he
      split at he
      · rename_i h; cases h
      · rename_i p1 r1 p2 r2 e1 e2
        cases e1; cases e2
        cases hq : eqCells (cs.drop (k + 1)) (ds.drop (k + 1)) with
        | none => rw [hq] at he; cases he
        | some t' =>
          rw [hq] at he; cases he
          have := d_int ha; subst this
          have := d_int hb; subst this
          refine core _ t' ?_ hq rfl
          cases hq2 : P.underlying f.type with
          | none => rw [hq2] at hu; cases hu
          | some dd =>
            rw [hq2] at hu
            cases dd <;> simp at hu
            rw [run_equalIn_int w d f.type .i64 _ _ _ hq2]
            congr 1
      · cases he

theorem peq_of {t : TypeId} (h : (tyi P t).peq = true) : P.underlying t = some (.struct (P.fieldsOf t)) ∧ plainFields P 0 (P.fieldsOf t).toList = true ∧ P.stoodInHeld t = false ∧ P.eqGuardType P.depth t = false ∧ (P.fieldsOf t).size = P.cellsOf t := by
  simp only [tyi, Program.fieldsOf] at h ⊢
  cases hu : P.underlying t with
  | none => rw [hu] at h; simp at h
  | some d => rw [hu] at h; cases d <;> simp at h ⊢; exact ⟨h.1.1.1, h.1.1.2, h.1.2, h.2⟩

theorem run_equalIn_nil (w : World) (d : Nat) (T : TypeId) (base : Option Addr) (len cap : Nat) {e : TypeId} (hu : P.underlying T = some (.slice e)) :
    (Op.equalIn (d + 1) T (.slice base len cap) (.slice none 0 0)).run P w = .ok base.isNone w := by
  cases base <;> simp [Op.equalIn, run_underlying hu]
theorem nilEq_at {p r : PV} {v : Value} (h : nilEq p = some r) (hp : PV.At w ι X p v) :
    ∃ base len cap, v = .slice base len cap ∧ PV.At w ι X r (.bool base.isNone) ∧ (r = .ab ∨ ∃ b, r = .bool b) := by
  cases hp with
  | nilS => simp only [nilEq, Option.some.injEq] at h; subst h; exact ⟨_, _, _, rfl, .d _ _ (.sc _ rfl), .inr ⟨_, rfl⟩⟩
  | z0 base => simp only [nilEq, Option.some.injEq] at h; subst h; exact ⟨_, _, _, rfl, .ab _, .inl rfl⟩
  | ref0 o sz off base => simp only [nilEq, Option.some.injEq, and_self, if_true] at h; subst h; exact ⟨_, _, _, rfl, .ab _, .inl rfl⟩
  | ref o sz off len cap capr b hι hl hc hm hs =>
    simp only [nilEq, Option.some.injEq] at h
    split at h
    · subst h; exact ⟨_, _, _, rfl, .ab _, .inl rfl⟩
    · subst h; exact ⟨_, _, _, rfl, .d _ _ (.sc _ rfl), .inr ⟨_, rfl⟩⟩
  | d x v h' =>
    cases h' with
    | slnil base cap => simp only [nilEq, Option.some.injEq, List.isEmpty_nil, if_true] at h; subst h; exact ⟨_, _, _, rfl, .ab _, .inl rfl⟩
    | sl l b off cap sz hl hc hsz vals hv hh =>
      simp only [nilEq, Option.some.injEq] at h
      split at h
      · subst h; exact ⟨_, _, _, rfl, .ab _, .inl rfl⟩
      · subst h; exact ⟨_, _, _, rfl, .d _ _ (.sc _ rfl), .inr ⟨_, rfl⟩⟩
    | sc v hv => simp [nilEq] at h
    | ag => simp [nilEq] at h
    | tup => simp [nilEq] at h
    | pt => simp [nilEq] at h
    | fn => simp [nilEq] at h
  | ptr => simp [nilEq] at h
  | ag => simp [nilEq] at h
  | tup => simp [nilEq] at h
  | fn => simp [nilEq] at h
  | unk => simp [nilEq] at h
  | und => simp [nilEq] at h
  | ab => simp [nilEq] at h
theorem notPV_at {r : PV} {b : Bool} (h : PV.At w ι X r (.bool b)) (hsh : r = .ab ∨ ∃ b, r = .bool b) : PV.At w ι X (notPV r) (.bool (!b)) := by
  rcases hsh with rfl | ⟨c, rfl⟩
  · exact .ab _
  · cases h with
    | d _ _ h => cases h; exact .d _ _ (.sc _ rfl)

theorem sim_bin (hS : Hold B X w0 n S a w ι) {op : BinOp} {T T' : TypeId} {x y : Operand} (hd : ∀ t, dst = some t → t < n) (hx : constOk x = true) (hy : constOk y = true)
    (hc : (semBin op (tyi P T) (S.ev x) (S.ev y)).1) : Goes P B X w0 n ⟨dst, .binOp op T x y T', ty, pos, af, gd⟩ (S.app dst (semBin op (tyi P T) (S.ev x) (S.ev y)).2) a w := by
  have hp := hS.ev hx
  have hq := hS.ev hy
  generalize S.ev x = p at hc hp
  generalize S.ev y = q at hc hq
  unfold semBin at hc ⊢
  split at hc
  · cases hn : nilEq p with
    | none => rw [hn] at hc; exact hc.elim
    | some r =>
      rw [hn] at hc
      obtain ⟨hk, ho⟩ := hc
      simp only
      rw [app_v]
      obtain ⟨base, len, cap, e1, hr, hsh⟩ := nilEq_at hn hp
      have e2 : a.eval y = .slice none 0 0 := by
        generalize a.eval y = v at hq
        cases hq; rfl
      have he := run_equalIn_nil (P := P) w 9999 T base len cap (kind1 hk)
      have hg : (eqGuard op T x y (.slice base len cap) (.slice none 0 0)).run P w = .ok () w := by rcases ho with rfl | rfl <;> simp [eqGuard]
      rcases ho with rfl | rfl
      · refine hS.goes (v := .bool base.isNone) hd ?_ (by simpa using hr)
        simp [execOp, e1, e2, hg, binOp, Op.equal, Op.maxDepth, he]
      · refine hS.goes (v := .bool (!base.isNone)) hd ?_ (by simpa using notPV_at hr hsh)
        simp [execOp, e1, e2, hg, binOp, Op.equal, Op.maxDepth, he]
  · rename_i m k
    simp only
    rw [app_v]
    have e1 := d_int hp
    have e2 := d_int hq
    exact hS.goes hd (by simp only [execOp, e1, e2, Sem.run_bind, run_guard_ints, Result.andThen_ok, run_bin_ints op T m k hc, Sem.run_pure]) (.d _ _ (.sc _ (binI_one op m k)))
  · rename_i m k
    obtain ⟨ho, hc⟩ := hc
    simp only
    rw [app_v]
    have e1 := d_int hp
    have e2 : a.eval y = .int .u64 k := by
      generalize a.eval y = v at hq
      cases hq with
      | d _ _ h => cases h; rfl
    have hg : (eqGuard op T x y (.int .i64 m) (.int .u64 k)).run P w = .ok () w := by rcases ho with rfl | rfl <;> simp [eqGuard]
    exact hS.goes hd (by simp only [execOp, e1, e2, Sem.run_bind, hg, Result.andThen_ok, run_shift_u64 op T m k ho hc, Sem.run_pure]) (.d _ _ (.sc _ (binI_one op m k)))
  · rename_i m k
    obtain ⟨hk, ho⟩ := hc
    simp only
    rw [app_v]
    have e1 := d_bool hp
    have e2 := d_bool hq
    have hu := kind6 hk
    have he := run_equalIn_bool' (P := P) w 9999 T m k hu
    rw [show (m == k) = decide (m = k) by cases m <;> cases k <;> rfl] at he
    rcases ho with rfl | rfl
    · refine hS.goes (v := .bool (decide (m = k))) hd ?_ (.d _ _ (.sc _ rfl))
      simp [execOp, e1, e2, run_guard_bools, binOp, Op.equal, Op.maxDepth, he]
    · refine hS.goes (v := .bool (!decide (m = k))) hd ?_ (.d _ _ (.sc _ rfl))
      simp [execOp, e1, e2, run_guard_bools, binOp, Op.equal, Op.maxDepth, he]
  · cases hcs : p.agg? with
    | none => rw [hcs] at hc; exact hc.elim
    | some cs =>
      cases hds : q.agg? with
      | none => rw [hcs, hds] at hc; exact hc.elim
      | some ds =>
        rw [hcs, hds] at hc
        simp only at hc ⊢
        cases ht : eqCells cs ds with
        | none => rw [ht] at hc; exact hc.elim
        | some t =>
          rw [ht] at hc
          obtain ⟨hpe, hln, ho⟩ := hc
          simp only
          rw [app_v]
          obtain ⟨xs, e1, hxs, h1⟩ := hp.agg hcs
          obtain ⟨ys, e2, hys, h2⟩ := hq.agg hds
          obtain ⟨hu, hpf, hst, hg, hsz⟩ := peq_of hpe
          have hr := run_eqFields (P := P) hxs hys h1 h2 9998 (P.fieldsOf T).toList 0 t hpf (by simp only [tyi] at hln; simp; omega) (by simpa using ht)
          have he := run_equalIn_struct (P := P) w 9999 T xs ys hu hst
          rw [hr] at he
          rcases ho with rfl | rfl
          · refine hS.goes (v := .bool t) hd ?_ (.d _ _ (.sc _ rfl))
            simp [execOp, e1, e2, run_eqGuard_agg w _ T _ _ xs ys hg, binOp, Op.equal, Op.maxDepth, he]
          · refine hS.goes (v := .bool (!t)) hd ?_ (.d _ _ (.sc _ rfl))
            simp [execOp, e1, e2, run_eqGuard_agg w _ T _ _ xs ys hg, binOp, Op.equal, Op.maxDepth, he]
  
end hold
end Go.PS
