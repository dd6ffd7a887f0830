/- Rules by which a region's run is reckoned. -/
import Derived.Test.YtpmmikkojpcogaaPSAct
namespace Go.PS
open Go

section rules
variable {P : Program} {own : Nat → Bool} {all rest : List Oper} {S : St} {fs : List Foot} {K : St → List Foot → Prop} {dst : Option Nat} {ty : TypeId} {pos : String} {af : Array Edge}

@[go_sem] theorem run_move {x : Operand} : wpRun P own all (⟨dst, .move x, ty, pos, af, none⟩ :: rest) S fs K = wpRun P own all rest (S.put dst (S.ev x)) (([], []) :: fs) K := by
  show (True ∧ wpRun P own all rest (S.app dst { val := S.ev x }) (([], []) :: fs) K) = _
  rw [app_v, true_and]
@[go_sem] theorem run_assign {x : Operand} : wpRun P own all (⟨dst, .assign x, ty, pos, af, none⟩ :: rest) S fs K = wpRun P own all rest (S.put dst (S.ev x)) (([], []) :: fs) K := by
  show (True ∧ wpRun P own all rest (S.app dst { val := S.ev x }) (([], []) :: fs) K) = _
  rw [app_v, true_and]
@[go_sem] theorem run_pick {c a b : Operand} : wpRun P own all (⟨dst, .pick c a b, ty, pos, af, none⟩ :: rest) S fs K =
    ((semPick (S.ev c) (S.ev a) (S.ev b)).1 ∧ wpRun P own all rest (S.app dst (semPick (S.ev c) (S.ev a) (S.ev b)).2) ((semPick (S.ev c) (S.ev a) (S.ev b)).2.foot :: fs) K) := Eq.trans rfl rfl
@[go_sem] theorem run_alloc {T : TypeId} : wpRun P own all (⟨dst, .alloc T, ty, pos, af, none⟩ :: rest) S fs K =
    ((semAlloc (tyi P T) S.objs dst).1 ∧ wpRun P own all rest (S.app dst (semAlloc (tyi P T) S.objs dst).2) ((semAlloc (tyi P T) S.objs dst).2.foot :: fs) K) := Eq.trans rfl rfl
@[go_sem] theorem run_box {T : TypeId} {x : Operand} : wpRun P own all (⟨dst, .box T x, ty, pos, af, none⟩ :: rest) S fs K =
    ((semBox S.objs dst (S.ev x).cells?).1 ∧ wpRun P own all rest (S.app dst (semBox S.objs dst (S.ev x).cells?).2) ((semBox S.objs dst (S.ev x).cells?).2.foot :: fs) K) := Eq.trans rfl rfl
@[go_sem] theorem run_build {T : TypeId} {ps : Array (Nat × Operand)} : wpRun P own all (⟨dst, .build T ps, ty, pos, af, none⟩ :: rest) S fs K =
    ((semBuild (tyi P T) (ps.toList.map fun p => (p.1, S.ev p.2))).1 ∧ wpRun P own all rest (S.app dst (semBuild (tyi P T) (ps.toList.map fun p => (p.1, S.ev p.2))).2) ((semBuild (tyi P T) (ps.toList.map fun p => (p.1, S.ev p.2))).2.foot :: fs) K) := Eq.trans rfl rfl
@[go_sem] theorem run_buildSlice {T : TypeId} {n : Nat} {t : Nat} {ps : Array (Nat × Operand)} : wpRun P own all (⟨some t, .buildSlice T n ps, ty, pos, af, none⟩ :: rest) S fs K =
    ((semBuildSlice S.objs (some t) (own t) (tyi P T) (tyi P (tyi P T).elem) n (ps.toList.map fun p => (p.1, S.ev p.2))).1 ∧
      wpRun P own all rest (S.app (some t) (semBuildSlice S.objs (some t) (own t) (tyi P T) (tyi P (tyi P T).elem) n (ps.toList.map fun p => (p.1, S.ev p.2))).2) ((semBuildSlice S.objs (some t) (own t) (tyi P T) (tyi P (tyi P T).elem) n (ps.toList.map fun p => (p.1, S.ev p.2))).2.foot :: fs) K) := Eq.trans rfl rfl
@[go_sem] theorem run_load' {T : TypeId} {a : Operand} : wpRun P own all (⟨dst, .load T a, ty, pos, af, none⟩ :: rest) S fs K =
    ((semLoad (tyi P T) S.objs (S.ev a)).1 ∧ wpRun P own all rest (S.app dst (semLoad (tyi P T) S.objs (S.ev a)).2) ((semLoad (tyi P T) S.objs (S.ev a)).2.foot :: fs) K) := Eq.trans rfl rfl
@[go_sem] theorem run_store' {T : TypeId} {a x : Operand} : wpRun P own all (⟨dst, .store T a x, ty, pos, af, none⟩ :: rest) S fs K =
    ((semStore (tyi P T) S.objs (S.ev a) (S.ev x).cells?).1 ∧ wpRun P own all rest (S.app dst (semStore (tyi P T) S.objs (S.ev a) (S.ev x).cells?).2) ((semStore (tyi P T) S.objs (S.ev a) (S.ev x).cells?).2.foot :: fs) K) := Eq.trans rfl rfl
@[go_sem] theorem run_fieldAddr {T : TypeId} {x : Operand} {f : Nat} : wpRun P own all (⟨dst, .fieldAddr T x f, ty, pos, af, none⟩ :: rest) S fs K =
    ((semField P (tyi P T) f (S.ev x)).1 ∧ wpRun P own all rest (S.app dst (semField P (tyi P T) f (S.ev x)).2) ((semField P (tyi P T) f (S.ev x)).2.foot :: fs) K) := Eq.trans rfl rfl
@[go_sem] theorem run_indexAddr {T : TypeId} {x i : Operand} : wpRun P own all (⟨dst, .indexAddr T x i, ty, pos, af, none⟩ :: rest) S fs K =
    ((semIndex (tyi P T) (P.cellsOf (tyi P T).elem) (S.ev x) (S.ev i)).1 ∧ wpRun P own all rest (S.app dst (semIndex (tyi P T) (P.cellsOf (tyi P T).elem) (S.ev x) (S.ev i)).2) ((semIndex (tyi P T) (P.cellsOf (tyi P T).elem) (S.ev x) (S.ev i)).2.foot :: fs) K) := Eq.trans rfl rfl
@[go_sem] theorem run_binOp {op : BinOp} {T T' : TypeId} {x y : Operand} : wpRun P own all (⟨dst, .binOp op T x y T', ty, pos, af, none⟩ :: rest) S fs K =
    ((semBin op (tyi P T) (S.ev x) (S.ev y)).1 ∧ wpRun P own all rest (S.app dst (semBin op (tyi P T) (S.ev x) (S.ev y)).2) ((semBin op (tyi P T) (S.ev x) (S.ev y)).2.foot :: fs) K) := Eq.trans rfl rfl
@[go_sem] theorem run_unOp {op : UnOp} {T : TypeId} {x : Operand} : wpRun P own all (⟨dst, .unOp op T x, ty, pos, af, none⟩ :: rest) S fs K =
    ((semUn op (S.ev x)).1 ∧ wpRun P own all rest (S.app dst (semUn op (S.ev x)).2) ((semUn op (S.ev x)).2.foot :: fs) K) := Eq.trans rfl rfl
@[go_sem] theorem run_slice {T : TypeId} {x : Operand} {lo hi mx : Option Operand} : wpRun P own all (⟨dst, .slice T x lo hi mx, ty, pos, af, none⟩ :: rest) S fs K =
    ((semSlice (tyi P T) (P.cellsOf (tyi P T).elem) (S.ev x) (lo.map S.ev) (hi.map S.ev) (mx.map S.ev)).1 ∧ wpRun P own all rest (S.app dst (semSlice (tyi P T) (P.cellsOf (tyi P T).elem) (S.ev x) (lo.map S.ev) (hi.map S.ev) (mx.map S.ev)).2) ((semSlice (tyi P T) (P.cellsOf (tyi P T).elem) (S.ev x) (lo.map S.ev) (hi.map S.ev) (mx.map S.ev)).2.foot :: fs) K) := Eq.trans rfl rfl
@[go_sem] theorem run_makeSlice {T : TypeId} {l c : Operand} : wpRun P own all (⟨dst, .makeSlice T l c, ty, pos, af, none⟩ :: rest) S fs K =
    ((semMakeSlice (tyi P T) (tyi P (tyi P T).elem) S.objs dst (S.ev l) (S.ev c)).1 ∧ wpRun P own all rest (S.app dst (semMakeSlice (tyi P T) (tyi P (tyi P T).elem) S.objs dst (S.ev l) (S.ev c)).2) ((semMakeSlice (tyi P T) (tyi P (tyi P T).elem) S.objs dst (S.ev l) (S.ev c)).2.foot :: fs) K) := Eq.trans rfl rfl
@[go_sem] theorem run_makeFunc {fn : Fn} {fi ca : Array Operand} : wpRun P own all (⟨dst, .makeFunc fn fi ca, ty, pos, af, none⟩ :: rest) S fs K =
    ((semMakeFunc fn (fi.toList.map S.ev) (ca.toList.map S.ev)).1 ∧ wpRun P own all rest (S.app dst (semMakeFunc fn (fi.toList.map S.ev) (ca.toList.map S.ev)).2) ((semMakeFunc fn (fi.toList.map S.ev) (ca.toList.map S.ev)).2.foot :: fs) K) := Eq.trans rfl rfl
@[go_sem] theorem run_nilCheck {x : Operand} : wpRun P own all (⟨dst, .nilCheck x, ty, pos, af, none⟩ :: rest) S fs K =
    ((semNilCheck (S.ev x)).1 ∧ wpRun P own all rest (S.app dst (semNilCheck (S.ev x)).2) ((semNilCheck (S.ev x)).2.foot :: fs) K) := Eq.trans rfl rfl
@[go_sem] theorem run_extract {x : Operand} {i : Nat} : wpRun P own all (⟨dst, .extract x i, ty, pos, af, none⟩ :: rest) S fs K =
    ((semExtract (S.ev x) i).1 ∧ wpRun P own all rest (S.app dst (semExtract (S.ev x) i).2) ((semExtract (S.ev x) i).2.foot :: fs) K) := Eq.trans rfl rfl
@[go_sem] theorem run_builtin {b : Builtin} {as : Array Operand} {tys : Array TypeId} : wpRun P own all (⟨dst, .call ⟨.builtin b, as, tys⟩, ty, pos, af, none⟩ :: rest) S fs K =
    ((semBuiltin P S.objs dst b tys.toList (as.toList.map S.ev)).1 ∧ wpRun P own all rest (S.app dst (semBuiltin P S.objs dst b tys.toList (as.toList.map S.ev)).2) ((semBuiltin P S.objs dst b tys.toList (as.toList.map S.ev)).2.foot :: fs) K) := Eq.trans rfl rfl
/-- A call of a Go function. -/
theorem run_call {f : Operand} {as : Array Operand} {tys : Array TypeId} (r : D) (h : CallCond P S.objs (S.ev f) (as.toList.map S.ev) r)
    (hk : wpRun P own all rest (S.put dst (.d r)) (((as.toList.map S.ev).flatMap (PV.refs S.objs 4), []) :: fs) K) :
    wpRun P own all (⟨dst, .call ⟨.value f, as, tys⟩, ty, pos, af, none⟩ :: rest) S fs K := .inl ⟨r, h, hk⟩
theorem run_callM {f : Operand} {as : Array Operand} {tys : Array TypeId} (e : Eff) (h : CallCondM P S.objs (S.ev f) (as.toList.map S.ev) e) (hk : wpRun P own all rest (S.app dst e) (e.foot :: fs) K) :
    wpRun P own all (⟨dst, .call ⟨.value f, as, tys⟩, ty, pos, af, none⟩ :: rest) S fs K := .inr ⟨e, h, hk⟩
/-- The way that a guard takes. -/
def wpG (P : Program) (own : Nat → Bool) (all : List Oper) (_t : Option Nat) (g : Option (Option Bool)) (want : Bool) (o : Oper) (rest : List Oper) (S : St) (fs : List Foot) (K : St → List Foot → Prop) : Prop := match g with
  | some g => if g = some want then wpRun P own all (o :: rest) S fs K else wpRun P own all rest (S.put o.dst .und) (([], []) :: fs) K
  | none => False
variable {t : Option Nat} {o : Oper} {w : Bool}
@[go_sem] theorem wpG_tt : wpG P own all t (some (some true)) true o rest S fs K = wpRun P own all (o :: rest) S fs K := Eq.trans rfl rfl
@[go_sem] theorem wpG_ff : wpG P own all t (some (some false)) false o rest S fs K = wpRun P own all (o :: rest) S fs K := Eq.trans rfl rfl
@[go_sem] theorem wpG_tf : wpG P own all t (some (some true)) false o rest S fs K = wpRun P own all rest (S.put o.dst .und) (([], []) :: fs) K := Eq.trans rfl rfl
@[go_sem] theorem wpG_ft : wpG P own all t (some (some false)) true o rest S fs K = wpRun P own all rest (S.put o.dst .und) (([], []) :: fs) K := Eq.trans rfl rfl
@[go_sem] theorem wpG_none : wpG P own all t (some none) w o rest S fs K = wpRun P own all rest (S.put o.dst .und) (([], []) :: fs) K := Eq.trans rfl rfl
@[go_sem] theorem run_guardS {op : Op} {j : Nat} {want : Bool} : wpRun P own all (⟨dst, op, ty, pos, af, some (j, want)⟩ :: rest) S fs K =
    wpG P own all ((all[j]?).bind (·.dst)) (grd all S j) want ⟨dst, op, ty, pos, af, none⟩ rest S fs K := Eq.trans rfl rfl
/-- A guarded operation whose guard is not known: both ways. -/
theorem wpG_split {T : Option Nat} {u : Nat} {want b : Bool} (hT : T = some u) (he : S.env u = .d (.sc (.bool b)))
    (h1 : b = true → wpG P own all none (some (some true)) want o rest ⟨upd u (.d (.sc (.bool true))) S.env, S.objs⟩ fs K)
    (h2 : b = false → wpG P own all none (some (some false)) want o rest ⟨upd u (.d (.sc (.bool false))) S.env, S.objs⟩ fs K) :
    wpG P own all T (some (some b)) want o rest S fs K := by
  have e : ∀ c, b = c → (⟨upd u (.d (.sc (.bool c))) S.env, S.objs⟩ : St) = S := by
    rintro c rfl
    have : upd u (.d (.sc (.bool b))) S.env = S.env := by
      funext i
      by_cases hi : i = u
      · subst hi; rw [upd, if_pos rfl, he]
      · rw [upd, if_neg hi]
    rw [this]
  cases b
  · have := h2 rfl; rw [e false rfl] at this; exact this
  · have := h1 rfl; rw [e true rfl] at this; exact this

@[go_sem] theorem put_mk {env : Nat → PV} {objs : Nat → Ob} {t : Nat} {x : PV} : (St.mk env objs).put (some t) x = ⟨upd t x env, objs⟩ := rfl
@[go_sem] theorem put_none {S : St} {x : PV} : S.put none x = S := rfl
@[go_sem] theorem ev_tmp {env : Nat → PV} {objs : Nat → Ob} {t : Nat} : (St.mk env objs).ev (.tmp t) = env t := rfl
@[go_sem] theorem ev_func {env : Nat → PV} {objs : Nat → Ob} {f : Nat} : (St.mk env objs).ev (.func f) = .d (.fn f []) := rfl
@[go_sem] theorem ev_int {env : Nat → PV} {objs : Nat → Ob} {k : IntKind} {n : Int} : (St.mk env objs).ev (.const (.int k n)) = .d (.sc (.int k n)) := rfl
@[go_sem] theorem ev_bool {env : Nat → PV} {objs : Nat → Ob} {b : Bool} : (St.mk env objs).ev (.const (.bool b)) = .d (.sc (.bool b)) := rfl
@[go_sem] theorem ev_nil {env : Nat → PV} {objs : Nat → Ob} : (St.mk env objs).ev (.const (.slice none 0 0)) = .nilS := rfl
@[go_sem] theorem ev_agg {env : Nat → PV} {objs : Nat → Ob} {cs : Array Value} : (St.mk env objs).ev (.const (.agg cs)) = .ag (cs.toList.map cellPV) := rfl
@[go_sem] theorem app_mk {env : Nat → PV} {objs : Nat → Ob} {t : Nat} {x : PV} {wr : List (Nat × Ob)} {rd : List Nat} : (St.mk env objs).app (some t) ⟨x, wr, rd⟩ = ⟨upd t x env, wrs wr objs⟩ := rfl
@[go_sem] theorem app_mk_none {env : Nat → PV} {objs : Nat → Ob} {x : PV} {wr : List (Nat × Ob)} {rd : List Nat} : (St.mk env objs).app none ⟨x, wr, rd⟩ = ⟨env, wrs wr objs⟩ := rfl
@[go_sem] theorem wrs_nil {objs : Nat → Ob} : wrs [] objs = objs := rfl
@[go_sem] theorem wrs_cons {objs : Nat → Ob} {o : Nat} {ob : Ob} {r : List (Nat × Ob)} : wrs ((o, ob) :: r) objs = upd o ob (wrs r objs) := rfl
@[go_sem] theorem foot_mk {x : PV} {wr : List (Nat × Ob)} {rd : List Nat} : Eff.foot ⟨x, wr, rd⟩ = (rd, wr.map (·.1)) := rfl
@[go_sem] theorem upd_same {α : Type} {i : Nat} {x : α} {f : Nat → α} : upd i x f i = x := if_pos rfl
theorem upd_ne {α : Type} {i j : Nat} {x : α} {f : Nat → α} (h : j ≠ i) : upd i x f j = f j := if_neg h
@[go_sem] theorem upd_at {α : Type} {i j : Nat} {x : α} {f : Nat → α} : upd i x f j = if j = i then x else f j := rfl
@[go_sem] theorem cells_d_sc {v : Value} : (PV.d (.sc v)).cells? = some [.d (.sc v)] := rfl
@[go_sem] theorem cells_d_ag {cs : List D} : (PV.d (.ag cs)).cells? = some (cs.map .d) := rfl
@[go_sem] theorem cells_d_sl {l : List D} : (PV.d (.sl l)).cells? = some [.d (.sl l)] := rfl
@[go_sem] theorem cells_d_pt {l : List D} : (PV.d (.pt l)).cells? = some [.d (.pt l)] := rfl
@[go_sem] theorem cells_d_fn {f : FuncId} {l : List D} : (PV.d (.fn f l)).cells? = some [.d (.fn f l)] := rfl
@[go_sem] theorem cells_ag {cs : List PV} : (PV.ag cs).cells? = some cs := rfl
@[go_sem] theorem cells_ref {o sz off len cap : Nat} : (PV.ref o sz off len cap).cells? = some [.ref o sz off len cap] := rfl
@[go_sem] theorem cells_ptr {o sz i c : Nat} : (PV.ptr o sz i c).cells? = some [.ptr o sz i c] := rfl
@[go_sem] theorem cells_nilS : PV.nilS.cells? = some [.nilS] := rfl
attribute [go_sem] D.cells PV.agg? PV.asD cellPV ldD ldP ldOb mkD stOb fillP binI eqCells lenPV nilEq notPV semBox semAlloc semLoad semStore semField semIndex semBin semUn semPick semExtract semSlice semMakeSlice nilZero semNilCheck semMakeFunc bndOf subPV subOk semBuild semBuildSlice semBuiltin srcD srcR elemsF D.notTup D.ofCells cellD grd toD PV.refs
attribute [go_sem] frzEnv_at frzObs_at PV.frz PV.frzL Ob.frz PV.ren PV.renL Ob.ren renM caps? true_or or_true Option.isSome_some
attribute [go_sem] List.take_succ_cons List.take_zero List.take_nil List.drop_succ_cons List.drop_zero List.drop_nil List.map_cons List.map_nil List.length_cons List.length_nil List.length_map List.append_nil List.nil_append List.cons_append List.flatMap_nil List.flatMap_cons List.mapM_nil List.mapM_cons List.all_cons List.all_nil List.head?_cons
  Option.map_some Option.map_none Option.getD_some Option.bind_some Option.bind_none Option.pure_def Option.bind_eq_bind Option.some.injEq Int.toNat_natCast List.getElem?_map List.getElem?_cons_zero List.getElem?_cons_succ List.set_cons_zero List.set_cons_succ List.replicate_succ List.replicate_zero
  if_true if_false true_and and_true and_self Bool.false_eq_true ne_eq not_false_eq_true not_true_eq_false Bool.not_true Bool.not_false Bool.true_and Bool.and_true Bool.false_and Bool.and_false decide_true decide_false List.mem_nil_iff List.mem_cons List.not_mem_nil false_implies implies_true forall_const or_false or_true false_or
@[go_sem low] theorem splice_def {α : Type} {cs : List α} {off : Nat} {xs : List α} : splice cs off xs = cs.take off ++ xs ++ cs.drop (off + xs.length) := rfl
/-! Append, by what is appended and what it is appended to. -/
def appA (objs : Nat → Ob) (dst : Option Nat) (st xt ety : TyI) (s x : PV) (xs : Option (List D)) : CE :=
  match xs, dst with
  | some xs, some t =>
    match s with
    | .ref o sz off len _ => match objs o with
      | .row sz' l => (st.kind = 1 ∧ xt.kind = 1 ∧ ety.zok = true ∧ ety.bytes ≤ 128 ∧ (∀ d, d ∈ xs → d.cells.length = ety.size) ∧ objs t = .dead ∧ sz = ety.size ∧ sz = sz' ∧ off = 0 ∧ len ≤ l.length ∧ roomy (len + xs.length),
          { val := .ref t sz 0 (len + xs.length) (len + xs.length), wr := [(t, .row sz' (l.take len ++ xs)), (o, .gone)], rd := srcR x })
      | _ => .no
    | .nilS => (st.kind = 1 ∧ xt.kind = 1 ∧ ety.zok = true ∧ ety.bytes ≤ 128 ∧ (∀ d, d ∈ xs → d.cells.length = ety.size) ∧ objs t = .dead ∧ roomy xs.length,
          { val := .ref t ety.size 0 xs.length xs.length, wr := [(t, .row ety.size xs)], rd := srcR x })
    | .z0 => (st.kind = 1 ∧ xt.kind = 1 ∧ ety.zok = true ∧ ety.bytes ≤ 128 ∧ (∀ d, d ∈ xs → d.cells.length = ety.size) ∧ objs t = .dead ∧ roomy xs.length,
          { val := .ref t ety.size 0 xs.length xs.length, wr := [(t, .row ety.size xs)], rd := srcR x })
    | _ => .no
  | _, _ => .no
def appR (objs : Nat → Ob) (t : Nat) (st xt ety : TyI) (o sz off len : Nat) (xs : List D) (x : PV) : Ob → CE
  | .row sz' l => (st.kind = 1 ∧ xt.kind = 1 ∧ ety.zok = true ∧ ety.bytes ≤ 128 ∧ (∀ d, d ∈ xs → d.cells.length = ety.size) ∧ objs t = .dead ∧ sz = ety.size ∧ sz = sz' ∧ off = 0 ∧ len ≤ l.length ∧ roomy (len + xs.length),
          { val := .ref t sz 0 (len + xs.length) (len + xs.length), wr := [(t, .row sz' (l.take len ++ xs)), (o, .gone)], rd := srcR x })
  | _ => .no
@[go_sem] theorem semAppend_eq {objs : Nat → Ob} {dst : Option Nat} {st xt ety : TyI} {s x : PV} : semAppend objs dst st xt ety s x = appA objs dst st xt ety s x (srcD objs x) := by
  unfold semAppend appA; rfl
@[go_sem] theorem appA_ref {objs : Nat → Ob} {t : Nat} {st xt ety : TyI} {o sz off len cap : Nat} {x : PV} {xs : List D} : appA objs (some t) st xt ety (.ref o sz off len cap) x (some xs) = appR objs t st xt ety o sz off len xs x (objs o) := by
  simp only [appA, appR]
@[go_sem] theorem appR_row {objs : Nat → Ob} {t : Nat} {st xt ety : TyI} {o sz sz' off len : Nat} {x : PV} {xs l : List D} : appR objs t st xt ety o sz off len xs x (.row sz' l) =
    (st.kind = 1 ∧ xt.kind = 1 ∧ ety.zok = true ∧ ety.bytes ≤ 128 ∧ (∀ d, d ∈ xs → d.cells.length = ety.size) ∧ objs t = .dead ∧ sz = ety.size ∧ sz = sz' ∧ off = 0 ∧ len ≤ l.length ∧ roomy (len + xs.length),
          { val := .ref t sz 0 (len + xs.length) (len + xs.length), wr := [(t, .row sz' (l.take len ++ xs)), (o, .gone)], rd := srcR x }) := rfl
@[go_sem] theorem appA_nilS {objs : Nat → Ob} {t : Nat} {st xt ety : TyI} {x : PV} {xs : List D} : appA objs (some t) st xt ety .nilS x (some xs) =
    (st.kind = 1 ∧ xt.kind = 1 ∧ ety.zok = true ∧ ety.bytes ≤ 128 ∧ (∀ d, d ∈ xs → d.cells.length = ety.size) ∧ objs t = .dead ∧ roomy xs.length,
          { val := .ref t ety.size 0 xs.length xs.length, wr := [(t, .row ety.size xs)], rd := srcR x }) := rfl
@[go_sem] theorem appA_z0 {objs : Nat → Ob} {t : Nat} {st xt ety : TyI} {x : PV} {xs : List D} : appA objs (some t) st xt ety .z0 x (some xs) =
    (st.kind = 1 ∧ xt.kind = 1 ∧ ety.zok = true ∧ ety.bytes ≤ 128 ∧ (∀ d, d ∈ xs → d.cells.length = ety.size) ∧ objs t = .dead ∧ roomy xs.length,
          { val := .ref t ety.size 0 xs.length xs.length, wr := [(t, .row ety.size xs)], rd := srcR x }) := rfl
end rules
end Go.PS
