/- Own rows of own rows: a family of objects ZbW numbers of its own. -/
import Derived.Test.YtjjbhjnpeenbkaaGreatDoorPSCode
set_option linter.unusedSimpArgs false
set_option linter.unusedVariables false
set_option maxHeartbeats 16000000
namespace Go.PS
open Go

def fid (j i : Nat) : Nat := 1125899906842624 * j + i
structure Fam where
 j : Nat
 o : Nat
 sz : Nat
 n : Nat
 rows : Nat → List D
def ZaV (n : Nat) (r : Nat → PV) : List PV := (List.range n).map r
def Fam.ref (f : Fam) (i : Nat) : PV := .ref (fid f.j i) f.sz 0 (f.rows i).length (f.rows i).length
def Zao : List Fam → (Nat → Ob) → Nat → Ob
 | [], base => base
 | f :: fs, base => fun x => if x = f.o then .cells (ZaV f.n f.ref) else if fid f.j 0 ≤ x ∧ x < fid f.j f.n then .row f.sz (f.rows (x - fid f.j 0)) else Zao fs base x

theorem ZiA {n : Nat} {r : Nat → PV} {i : Nat} (h : i < n) : (ZaV n r)[i]? = some (r i) := by simp [ZaV, h]
theorem ZsP {n : Nat} {r : Nat → PV} {i : Nat} {p : PV} (h : (ZaV n r)[i]? = some p) : i < n ∧ p = r i := by
 by_cases hi : i < n
 ·rw [ZiA hi] at h; cases h; exact ⟨hi, rfl⟩
 ·rw [List.getElem?_eq_none (by simp [ZaV]; omega)] at h; cases h
inductive PV.In (dom : Nat → Prop) : PV → Prop
 | d (x : D) : PV.In dom (.d x)
 | ref (o sz off len cap : Nat) (h : dom o) : PV.In dom (.ref o sz off len cap)
 | ptr (o sz i c : Nat) (h : dom o) : PV.In dom (.ptr o sz i c)
 | nilS : PV.In dom .nilS
 | z0 : PV.In dom .z0
 | ag (cs : List PV) (h : ∀ c, c ∈ cs → PV.In dom c) : PV.In dom (.ag cs)
 | tup (cs : List PV) (h : ∀ c, c ∈ cs → PV.In dom c) : PV.In dom (.tup cs)
 | fn (f : FuncId) (cs : List PV) (h : ∀ c, c ∈ cs → PV.In dom c) : PV.In dom (.fn f cs)
 | unk : PV.In dom .unk
 | und : PV.In dom .und
 | ab : PV.In dom .ab
 | mp (o : Nat) (h : dom o) : PV.In dom (.mp o)
 | ifp (T o : Nat) (h : dom o) : PV.In dom (.ifp T o)
inductive Ob.In (dom : Nat → Prop) : Ob → Prop
 | dead : Ob.In dom .dead
 | gone : Ob.In dom .gone
 | row (sz : Nat) (l : List D) : Ob.In dom (.row sz l)
 | imap (l : List (Int × Int)) : Ob.In dom (.imap l)
 | iter (m k : Nat) (sn : List Nat) (h : dom m) : Ob.In dom (.iter m k sn)
 | cells (cs : List PV) (h : ∀ c, c ∈ cs → PV.In dom c) : Ob.In dom (.cells cs)

theorem PV.In.mono {dom dom' : Nat → Prop} {p : PV} (h : PV.In dom p) (hd : ∀ o, dom o → dom' o) : PV.In dom' p := by
 induction h with
 | d x => exact .d x
 | ref o sz off len cap h => exact .ref _ _ _ _ _ (hd o h)
 | ptr o sz i c h => exact .ptr _ _ _ _ (hd o h)
 | nilS => exact .nilS
 | z0 => exact .z0
 | ag cs _ ih => exact .ag cs ih
 | tup cs _ ih => exact .tup cs ih
 | fn f cs _ ih => exact .fn f cs ih
 | unk => exact .unk
 | und => exact .und
 | ab => exact .ab
 | mp o h => exact .mp o (hd o h)
 | ifp T o h => exact .ifp T o (hd o h)
theorem Ob.In.mono {dom dom' : Nat → Prop} {p : Ob} (h : Ob.In dom p) (hd : ∀ o, dom o → dom' o) : Ob.In dom' p := by
 cases h with
 | dead => exact .dead
 | gone => exact .gone
 | row sz l => exact .row sz l
 | imap l => exact .imap l
 | iter m k sn h => exact .iter m k sn (hd m h)
 | cells cs h => exact .cells cs fun c hc => (h c hc).mono hd
theorem ZjF {L : List Nat} : ∀ (k : Nat) (p : PV), p.only L k = true → PV.In (· ∈ L) p := by
 intro k
 induction k with
 | zero => intro p h; simp [PV.only] at h
 | succ k ih =>
  intro p h;cases p with
  | d x => exact .d x
  | ref o sz off len cap => simp only [PV.only, List.contains_eq_mem, decide_eq_true_eq] at h; exact .ref _ _ _ _ _ h
  | ptr o sz i c => simp only [PV.only, List.contains_eq_mem, decide_eq_true_eq] at h; exact .ptr _ _ _ _ h
  | nilS => exact .nilS
  | z0 => exact .z0
  | unk => exact .unk
  | und => exact .und
  | ab => exact .ab
  | mp o => simp only [PV.only, List.contains_eq_mem, decide_eq_true_eq] at h; exact .mp _ h
  | ifp T o => simp only [PV.only, List.contains_eq_mem, decide_eq_true_eq] at h; exact .ifp _ _ h
  | ag cs => simp only [PV.only, List.all_eq_true] at h; exact .ag cs fun c hc => ih c (h c hc)
  | tup cs => simp only [PV.only, List.all_eq_true] at h; exact .tup cs fun c hc => ih c (h c hc)
  | fn f cs => simp only [PV.only, List.all_eq_true] at h; exact .fn f cs fun c hc => ih c (h c hc)
theorem ZmI {L : List Nat} {ob : Ob} (h : ob.only L = true) : Ob.In (· ∈ L) ob := by
 cases ob with
 | dead => exact .dead
 | gone => exact .gone
 | row sz l => exact .row sz l
 | imap l => exact .imap l
 | iter m k sn => simp only [Ob.only, List.contains_eq_mem, decide_eq_true_eq] at h; exact .iter m k sn h
 | cells cs => simp only [Ob.only, List.all_eq_true] at h; exact .cells cs fun c hc => ZjF 4 c (h c hc)
theorem Zqx {dom : Nat → Prop} {g g' : Nat → Nat} {p : PV} (h : PV.In dom p) (hg : ∀ o, dom o → g o = g' o) : p.ren g = p.ren g' := by
 induction h with
 | ref o sz off len cap h => simp only [PV.ren, hg o h]
 | ptr o sz i c h => simp only [PV.ren, hg o h]
 | mp o h => simp only [PV.ren, hg o h]
 | ifp T o h => simp only [PV.ren, hg o h]
 | ag cs _ ih => simp only [PV.ren, PV.renL_eq]; rw [List.map_congr_left ih]
 | tup cs _ ih => simp only [PV.ren, PV.renL_eq]; rw [List.map_congr_left ih]
 | fn f cs _ ih => simp only [PV.ren, PV.renL_eq]; rw [List.map_congr_left ih]
 | _ => simp only [PV.ren]
theorem Zxs {dom : Nat → Prop} {g g' : Nat → Nat} {p : Ob} (h : Ob.In dom p) (hg : ∀ o, dom o → g o = g' o) : p.ren g = p.ren g' := by
 cases h with
 | cells cs h => simp only [Ob.ren]; rw [List.map_congr_left fun c hc => Zqx (h c hc) hg]
 | iter m k sn h => simp only [Ob.ren, hg m h]
 | _ => simp only [Ob.ren]
theorem ZjV {dom : Nat → Prop} {g : Nat → Nat} {p : PV} (h : PV.In dom p) (hg : ∀ o, dom o → g o = o) : p.ren g = p := by
 induction h with
 | ref o sz off len cap h => simp only [PV.ren, hg o h]
 | ptr o sz i c h => simp only [PV.ren, hg o h]
 | mp o h => simp only [PV.ren, hg o h]
 | ifp T o h => simp only [PV.ren, hg o h]
 | ag cs _ ih => simp only [PV.ren, PV.renL_eq]; rw [List.map_congr_left ih, List.map_id']
 | tup cs _ ih => simp only [PV.ren, PV.renL_eq]; rw [List.map_congr_left ih, List.map_id']
 | fn f cs _ ih => simp only [PV.ren, PV.renL_eq]; rw [List.map_congr_left ih, List.map_id']
 | _ => simp only [PV.ren]
theorem ZoM {dom : Nat → Prop} {g : Nat → Nat} {p : Ob} (h : Ob.In dom p) (hg : ∀ o, dom o → g o = o) : p.ren g = p := by
 cases h with
 | cells cs h => simp only [Ob.ren]; rw [List.map_congr_left fun c hc => ZjV (h c hc) hg, List.map_id']
 | iter m k sn h => simp only [Ob.ren, hg m h]
 | _ => simp only [Ob.ren]

theorem Zlg {w : World} {ι ιc : Nat → Option Nat} {X : Nat → Prop} {g : Nat → Nat} {dom : Nat → Prop} (hι : ∀ i, dom i → ιc i = ι (g i)) (hX : ∀ b, ownX ιc X b → ownX ι X b) {p : PV} (h : PV.In dom p) :
  ∀ v, PV.At w ι X (p.ren g) v → PV.At w ιc X p v := by
 induction h with
 | d x => intro v hp; simp only [PV.ren] at hp; cases hp with | d _ _ h => exact .d _ _ (h.sub hX)
 | ref o sz off len cap h =>
  intro v hp;simp only [PV.ren] at hp;cases hp with
  | ref _ _ _ _ _ capr b hb hl hc hm hs => exact .ref o sz off len cap capr b ((hι o h).trans hb) hl hc hm hs
  | ref0 _ _ _ base => exact .ref0 _ _ _ base
 | ptr o sz i c h => intro v hp; simp only [PV.ren] at hp; cases hp with | ptr _ _ _ _ b hb => exact .ptr o sz i c b ((hι o h).trans hb)
 | nilS => intro v hp; simp only [PV.ren] at hp; cases hp; exact .nilS
 | z0 => intro v hp; simp only [PV.ren] at hp; cases hp; exact .z0 _
 | unk => intro v _; exact .unk _
 | und => intro v hp; simp only [PV.ren] at hp; cases hp; exact .und
 | ab => intro v hp; simp only [PV.ren] at hp; cases hp; exact .ab _
 | mp o h => intro v hp; simp only [PV.ren] at hp; cases hp with | mp _ b hb => exact .mp o b ((hι o h).trans hb)
 | ifp T o h => intro v hp; simp only [PV.ren] at hp; cases hp with | ifp _ _ b hb => exact .ifp T o b ((hι o h).trans hb)
 | ag cs _ ih =>
  intro v hp;simp only [PV.ren, PV.renL_eq] at hp;cases hp with | ag _ arr hsz hone hat => exact .ag cs arr (by simpa using hsz) hone fun j p v hj hv => ih p (List.mem_of_getElem? hj) v (hat j _ v (by rw [List.getElem?_map, hj]; rfl) hv)
 | tup cs _ ih =>
  intro v hp;simp only [PV.ren, PV.renL_eq] at hp;cases hp with | tup _ arr hsz hat => exact .tup cs arr (by simpa using hsz) fun j p v hj hv => ih p (List.mem_of_getElem? hj) v (hat j _ v (by rw [List.getElem?_map, hj]; rfl) hv)
 | fn f cs _ ih =>
  intro v hp;simp only [PV.ren, PV.renL_eq] at hp;cases hp with | fn _ _ arr hsz hat => exact .fn f cs arr (by simpa using hsz) fun j p v hj hv => ih p (List.mem_of_getElem? hj) v (hat j _ v (by rw [List.getElem?_map, hj]; rfl) hv)
theorem Zp2 {w : World} {ι ιc : Nat → Option Nat} {X : Nat → Prop} {g : Nat → Nat} {dom : Nat → Prop} (hι : ∀ i, dom i → ιc i = ι (g i)) (hX : ∀ b, ownX ιc X b → ownX ι X b) {o : Nat} {ob : Ob} (ho : dom o) (h : Ob.In dom ob)
  (hp : Ob.At w ι X (g o) (ob.ren g)) : Ob.At w ιc X o ob := by
 cases h with
 | gone => exact .gone
 | dead => simp only [Ob.ren] at hp; cases hp with | dead h => exact .dead ((hι o ho).trans h)
 | cells cs h =>
  simp only [Ob.ren] at hp;cases hp with
  | cells _ b c T hb hbb hsz hone hat =>
   exact .cells cs b c T ((hι o ho).trans hb) hbb (by simpa using hsz) hone fun j p v hj hv => Zlg hι hX (h p (List.mem_of_getElem? hj)) v (hat j _ v (by rw [List.getElem?_map, hj]; rfl) hv)
 | row sz l =>
  simp only [Ob.ren] at hp;cases hp with
  | row0 _ h => exact .row0 sz ((hι o ho).trans h)
  | row _ _ b c T hb hbb hsz hcl hone hat => exact .row sz l b c T ((hι o ho).trans hb) hbb hsz hcl hone fun i d j e v hi hj hv => (hat i d j e v hi hj hv).sub hX
 | imap l =>
  simp only [Ob.ren] at hp;cases hp with
  | imap _ b es clock hb hbb he => exact .imap l b es clock ((hι o ho).trans hb) hbb he
 | iter m k sn hm0 =>
  simp only [Ob.ren] at hp;cases hp with
  | iter _ _ _ b bm hb hm hbb => exact .iter m k sn b bm ((hι o ho).trans hb) ((hι m hm0).trans hm) hbb

theorem ZqT {S S' : St} (g : Nat → Nat) (dom : Nat → Prop) (h1 : ∀ t, S'.env t = .unk ∨ (S.env t = (S'.env t).ren g ∧ (S'.env t).In dom)) (h2 : ∀ o, dom o → S.objs (g o) = (S'.objs o).ren g ∧ (S'.objs o).In dom)
  (h3 : ∀ o, ¬ dom o → S'.objs o = .dead) (h5 : ∀ i, dom i → ∀ j, dom j → g i = g j → i = j) (h6 : ∀ o, dom o → ((o < 1000 ∨ 2000 ≤ o) ∧ (g o < 1000 ∨ 2000 ≤ g o)) ∨ g o = o)
  (h7 : ∀ o, 1000 ≤ o → o < 2000 → ¬ dom o → S.objs o = .dead) : Ent S S' := by
 rw [Zf7];intro B X w0 n a w ι hS;have dec := fun o => Classical.propDecidable (dom o)
 let ι' : Nat → Option Nat := fun o => if dom o then ι (g o) else none
 have hκ : ∀ o, dom o → ι' o = ι (g o) := fun o ho => if_pos ho
 have sub : ∀ o b, ι' o = some b → dom o ∧ ι (g o) = some b := by
  intro o b h;by_cases ho : dom o
  ·rw [hκ o ho] at h; exact ⟨ho, h⟩
  ·simp only [ι', if_neg ho] at h; cases h
 have subX : ∀ b, ownX ι' X b → ownX ι X b := by
  rintro b (hb | ⟨o, hb⟩)
  ·exact .inl hb
  ·exact .inr ⟨_, (sub o b hb).2⟩
 have live : ∀ o, dom o → S'.objs o ≠ .gone → S.objs (g o) ≠ .gone := by
  intro o ho hg;rw [(h2 o ho).1];exact fun he => hg (Zi2.1 he)
 refine ⟨ι', hS.size, hS.defers, hS.frame, hS.hB, hS.hXB, fun o o' b f f' e e' => ?_, fun o b e => hS.free _ b (sub o b e).2, fun t => ?_, fun o => ?_, fun o b hb => ?_⟩
 ·obtain ⟨g1, g2⟩ := sub o b e;obtain ⟨g3, g4⟩ := sub o' b e';exact h5 o g1 o' g3 (hS.inj _ _ b (live o g1 f) (live o' g3 f') g2 g4)
 ·rcases h1 t with h | ⟨h, hin⟩
  ·rw [h]; exact .unk _
  ·have := hS.env t;rw [h] at this;exact Zlg hκ subX hin _ this
 ·by_cases ho : dom o
  ·have hh := hS.objs (g o);rw [(h2 o ho).1] at hh;exact Zp2 hκ subX ho (h2 o ho).2 hh
  ·rw [h3 o ho]; exact .dead (if_neg ho)
 ·obtain ⟨g1, g2, g3⟩ := hS.stay o b hb;refine ⟨g1, ?_, g3⟩;by_cases ho : dom o
  ·rw [hκ o ho];rcases h6 o ho with h | h
   ·omega
   ·rw [h]; exact g2
  ·have := hS.dead (h7 o g1.1 g1.2 ho);rw [this] at g2; cases g2

theorem Zkm (σ : List (Nat × Nat)) (x : Nat) : gOf σ x = x ∨ ∃ p, p ∈ σ ∧ p.1 = x ∧ gOf σ x = p.2 := by
 induction σ with
 | nil => exact .inl rfl
 | cons p σ ih =>
  obtain ⟨a, b⟩ := p;by_cases h : x = a
  ·subst h; exact .inr ⟨(x, b), by simp, rfl, if_pos rfl⟩
  ·have he : gOf ((a, b) :: σ) x = gOf σ x := if_neg h;rcases ih with h1 | ⟨p, h1, h2, h3⟩
   ·exact .inl (he.trans h1)
   ·exact .inr ⟨p, List.mem_cons_of_mem _ h1, h2, he.trans h3⟩

def Zg0 (Fs : List Fam) : Prop := (Fs.map (·.j)).Nodup ∧ (Fs.map (·.o)).Nodup ∧ ∀ f, f ∈ Fs → 1 ≤ f.j ∧ f.o < 1125899906842624 ∧ f.n ≤ 1125899906842624
theorem Zg0.tail {f : Fam} {Fs : List Fam} (h : Zg0 (f :: Fs)) : Zg0 Fs := by
 obtain ⟨h1, h2, h3⟩ := h;simp only [List.map_cons, List.nodup_cons] at h1 h2;exact ⟨h1.2, h2.2, fun g hg => h3 g (List.mem_cons_of_mem _ hg)⟩
theorem Zlr {j j' i i' : Nat} (h : fid j i = fid j' i') (h1 : i < 1125899906842624) (h2 : i' < 1125899906842624) : j = j' ∧ i = i' := by
 simp only [fid] at h; omega
theorem Zmw {base : Nat → Ob} : ∀ {Fs : List Fam} {f : Fam}, Zg0 Fs → f ∈ Fs → Zao Fs base f.o = .cells (ZaV f.n f.ref)
 | [], f, _, h => by cases h
 | g :: Fs, f, ha, h => by
  simp only [Zao];rcases List.mem_cons.1 h with rfl | h'
  ·rw [if_pos rfl]
  ·have hne : f.o ≠ g.o := by
    intro he;have := ha.2.1;simp only [List.map_cons, List.nodup_cons] at this;exact this.1 (List.mem_map.2 ⟨f, h', he⟩)
   have h1 := ha.2.2 f h;have h2 := ha.2.2 g (by simp);rw [if_neg hne, if_neg (by simp only [fid]; omega)];exact Zmw ha.tail h'
theorem ZkG {base : Nat → Ob} : ∀ {Fs : List Fam} {f : Fam} {i : Nat}, Zg0 Fs → f ∈ Fs → i < f.n → Zao Fs base (fid f.j i) = .row f.sz (f.rows i)
 | [], f, _, _, h, _ => by cases h
 | g :: Fs, f, i, ha, h, hi => by
  simp only [Zao];have h1 := ha.2.2 f h;have h2 := ha.2.2 g (by simp);rw [if_neg (by simp only [fid]; omega)];rcases List.mem_cons.1 h with rfl | h'
  ·rw [if_pos (by simp only [fid]; omega)]
   congr 2; simp only [fid]; omega
  ·have hne : f.j ≠ g.j := by
    intro he;have := ha.1;simp only [List.map_cons, List.nodup_cons] at this;exact this.1 (List.mem_map.2 ⟨f, h', he⟩)
   rw [if_neg (by simp only [fid]; omega)];exact ZkG ha.tail h' hi
theorem ZhI {base : Nat → Ob} : ∀ {Fs : List Fam} {x : Nat}, (∀ f, f ∈ Fs → x ≠ f.o ∧ ∀ i, i < f.n → x ≠ fid f.j i) → Zao Fs base x = base x
 | [], _, _ => rfl
 | g :: Fs, x, h => by
  simp only [Zao];have h1 := h g (by simp);rw [if_neg h1.1, if_neg (fun hx => h1.2 (x - fid g.j 0) (by simp only [fid] at *; omega) (by simp only [fid] at *; omega))];exact ZhI fun f hf => h f (List.mem_cons_of_mem _ hf)

def Zf2 (S : St) (L : List (Nat × PV)) (Fs : List Fam) (M : List (Nat × Ob)) : Prop := Ent S ⟨Zbq L, Zao Fs (Zan M)⟩

theorem Zl8 {S : St} (σf σ : List (Nat × Nat)) (L : List (Nat × PV)) (Fs : List Fam) (M : List (Nat × Ob))
  (hL : ∀ p ∈ L, S.env p.1 = p.2.ren (gOf σ)) (hM : ∀ q ∈ M, S.objs (gOf σ q.1) = q.2.ren (gOf σ))
  (hF : ∀ f ∈ Fs, ∃ r, S.objs (gOf σ f.o) = .cells (ZaV f.n r) ∧ ∀ i, i < f.n → r i = .ref (gOf σf (fid f.j i)) f.sz 0 (f.rows i).length (f.rows i).length ∧ S.objs (gOf σf (fid f.j i)) = .row f.sz (f.rows i))
  (hn : ∀ f ∈ Fs, 1 ≤ f.j ∧ f.o < 1125899906842624 ∧ f.n ≤ 1125899906842624)
  (c1 : (L.all fun p => p.2.only (Fs.map (·.o) ++ M.map (·.1)) 4) = true) (c2 : (M.all fun q => q.2.only (Fs.map (·.o) ++ M.map (·.1))) = true)
  (c3 : ((Fs.map (·.o) ++ M.map (·.1)).map (gOf σ) ++ σf.map (·.2)).Nodup) (c4 : (Fs.map (·.j)).Nodup)
  (c5 : ((Fs.map (·.o) ++ M.map (·.1)).all fun i => (((decide (i < 1000) || decide (2000 ≤ i)) && (decide (gOf σ i < 1000) || decide (2000 ≤ gOf σ i))) || decide (gOf σ i = i)) && decide (i < 1125899906842624) && decide (gOf σ i < 1125899906842624)) = true)
  (c6 : (σf.all fun p => (decide (p.2 < 1000) || decide (2000 ≤ p.2)) && decide (p.2 < 1125899906842624)) = true)
  (c7 : ZbU (Fs.map (·.o) ++ M.map (·.1)) S.objs) : Zf2 S L Fs M := by
 generalize hids : Fs.map (·.o) ++ M.map (·.1) = ids at *;simp only [List.all_eq_true, Bool.and_eq_true, Bool.or_eq_true, decide_eq_true_eq] at c1 c2 c5 c6;have hpair := List.pairwise_append.1 c3;have hinj0 : ∀ i ∈ ids, ∀ j ∈ ids, gOf σ i = gOf σ j → i = j := by
  have key : ∀ (l : List Nat), (l.map (gOf σ)).Nodup → ∀ i ∈ l, ∀ j ∈ l, gOf σ i = gOf σ j → i = j := by
   intro l
   induction l with
   | nil => intro _ i hi; cases hi
   | cons a l ih =>
    intro hn i hi j hj he;simp only [List.map_cons, List.nodup_cons] at hn;rcases List.mem_cons.1 hi with hi' | hi' <;> rcases List.mem_cons.1 hj with hj' | hj'
    ·rw [hi', hj']
    ·exact absurd (List.mem_map.2 ⟨j, hj', by rw [← he, hi']⟩) hn.1
    ·exact absurd (List.mem_map.2 ⟨i, hi', by rw [he, hj']⟩) hn.1
    ·exact ih hn.2 i hi' j hj' he
  exact key ids hpair.1
 have hidn : ids.Nodup := by
  have : ∀ (l : List Nat), (l.map (gOf σ)).Nodup → l.Nodup := by
   intro l
   induction l with
   | nil => intro _; exact List.nodup_nil
   | cons a l ih =>
    intro hn;simp only [List.map_cons, List.nodup_cons] at hn;exact List.nodup_cons.2 ⟨fun hm => hn.1 (List.mem_map.2 ⟨a, hm, rfl⟩), ih hn.2⟩
  exact this ids hpair.1
 have hsp := List.pairwise_append.1 (show (Fs.map (·.o) ++ M.map (·.1)).Nodup by rw [hids]; exact hidn);have ha : Zg0 Fs := ⟨c4, hsp.1, hn⟩;have hMn : (M.map (·.1)).Nodup := hsp.2.1;have hlt : ∀ i ∈ ids, i < 1125899906842624 := fun i hi => (c5 i hi).1.2
 have hge : ∀ f ∈ Fs, ∀ i, 1125899906842624 ≤ fid f.j i := fun f hf i => by
  have := (hn f hf).1;simp only [fid]; omega
 -- the new names
 have hobo : ∀ f ∈ Fs, Zao Fs (Zan M) f.o = .cells (ZaV f.n f.ref) := fun f hf => Zmw ha hf
 have hobM : ∀ q ∈ M, Zao Fs (Zan M) q.1 = q.2 := by
  intro q hq;rw [ZhI fun f hf => ⟨fun he => ?_, fun i hi he => ?_⟩]
  ·exact ZgF M hMn q hq
  ·exact hsp.2.2 f.o (List.mem_map.2 ⟨f, hf, rfl⟩) q.1 (List.mem_map.2 ⟨q, hq, rfl⟩) he.symm
  ·have := hlt q.1 (by rw [← hids]; exact List.mem_append_right _ (List.mem_map.2 ⟨q, hq, rfl⟩));have := hge f hf i; omega
 refine ZqT (fun x => if x < 1125899906842624 then gOf σ x else gOf σf x) (fun x => x ∈ ids ∨ ∃ f ∈ Fs, ∃ i, i < f.n ∧ x = fid f.j i) (fun t => ?_) (fun o ho => ?_) (fun o ho => ?_) (fun x hx y hy he => ?_) (fun o ho => ?_) (fun o h1 h2 ho => ?_)
 ·show Zbq L t = .unk ∨ _;rcases Zks L t with h | ⟨p, hp, h⟩
  ·exact .inl h
  ·right
   have hin := ZjF 4 _ (c1 (t, p) hp);have e : (⟨Zbq L, Zao Fs (Zan M)⟩ : St).env t = p := h;rw [e];refine ⟨(hL (t, p) hp).trans (Zqx hin fun o ho => ?_), hin.mono fun o ho => .inl ho⟩;rw [if_pos (hlt o ho)]
 ·show S.objs _ = (Zao Fs (Zan M) o).ren _ ∧ (Zao Fs (Zan M) o).In _;rcases ho with ho | ⟨f, hf, i, hi, rfl⟩
  ·simp only [if_pos (hlt o ho)];rw [← hids] at ho;rcases List.mem_append.1 ho with ho | ho
   ·obtain ⟨f, hf, rfl⟩ := List.mem_map.1 ho;obtain ⟨r, h1, h2⟩ := hF f hf;rw [hobo f hf];refine ⟨?_, .cells _ fun c hc => ?_⟩
    ·rw [h1];simp only [Ob.ren]
     congr 1
     simp only [ZaV, List.map_map];refine List.map_congr_left fun i hi => ?_
     have hi := List.mem_range.1 hi;rw [(h2 i hi).1];simp only [Function.comp, Fam.ref, PV.ren];rw [if_neg (by have := hge f hf i; omega)]
    ·simp only [ZaV, List.mem_map, List.mem_range] at hc;obtain ⟨i, hi, rfl⟩ := hc;exact .ref _ _ _ _ _ (.inr ⟨f, hf, i, hi, rfl⟩)
   ·obtain ⟨q, hq, rfl⟩ := List.mem_map.1 ho;rw [hobM q hq];have hin := ZmI (c2 q hq);refine ⟨(hM q hq).trans (Zxs hin fun o ho => ?_), hin.mono fun o ho => .inl ho⟩;rw [if_pos (hlt o ho)]
  ·simp only [if_neg (show ¬ fid f.j i < 1125899906842624 by have := hge f hf i; omega)];obtain ⟨r, h1, h2⟩ := hF f hf;rw [ZkG ha hf hi];exact ⟨(h2 i hi).2, .row _ _⟩
 ·show Zao Fs (Zan M) o = .dead;rw [ZhI fun f hf => ⟨fun he => ?_, fun i hi he => ?_⟩]
  ·refine Zhq M o fun hm => ho (.inl ?_)
   rw [← hids]; exact List.mem_append_right _ hm
  ·exact ho (.inl (by rw [← hids]; exact List.mem_append_left _ (List.mem_map.2 ⟨f, hf, he.symm⟩)))
  ·exact ho (.inr ⟨f, hf, i, hi, he⟩)
 ·have big : ∀ z, (∃ f ∈ Fs, ∃ i, i < f.n ∧ z = fid f.j i) → ¬ z < 1125899906842624 := by
   rintro z ⟨f, hf, i, hi, rfl⟩;have := hge f hf i; omega
  have mixed : ∀ x y, x ∈ ids → (∃ f ∈ Fs, ∃ i, i < f.n ∧ y = fid f.j i) → gOf σ x = gOf σf y → False := by
   intro x y hx hy he;have hb := big y hy;rcases Zkm σf y with h | ⟨p, hp, h1, h2⟩
   ·have := (c5 x hx).2; omega
   ·exact hpair.2.2 (gOf σ x) (List.mem_map.2 ⟨x, hx, rfl⟩) p.2 (List.mem_map.2 ⟨p, hp, rfl⟩) (by rw [he, h2])
  rcases hx with hx | hx <;> rcases hy with hy | hy
  ·simp only [if_pos (hlt x hx), if_pos (hlt y hy)] at he; exact hinj0 x hx y hy he
  ·simp only [if_pos (hlt x hx), if_neg (big y hy)] at he; exact (mixed x y hx hy he).elim
  ·simp only [if_neg (big x hx), if_pos (hlt y hy)] at he; exact (mixed y x hy hx he.symm).elim
  ·simp only [if_neg (big x hx), if_neg (big y hy)] at he;have bx := big x hx;have byy := big y hy;rcases Zkm σf x with h | ⟨p, hp, h1, h2⟩ <;> rcases Zkm σf y with h' | ⟨p', hp', h1', h2'⟩
   ·omega
   ·have := (c6 p' hp').2; omega
   ·have := (c6 p hp).2; omega
   ·have key : ∀ (l : List (Nat × Nat)), (l.map (·.2)).Nodup → ∀ p ∈ l, ∀ q ∈ l, p.2 = q.2 → p = q := by
     intro l
     induction l with
     | nil => intro _ p hp; cases hp
     | cons a l ih =>
      intro hn p hp q hq he;simp only [List.map_cons, List.nodup_cons] at hn;rcases List.mem_cons.1 hp with hp' | hp' <;> rcases List.mem_cons.1 hq with hq' | hq'
      ·rw [hp', hq']
      ·exact absurd (List.mem_map.2 ⟨q, hq', by rw [← he, hp']⟩) hn.1
      ·exact absurd (List.mem_map.2 ⟨p, hp', by rw [he, hq']⟩) hn.1
      ·exact ih hn.2 p hp' q hq' he
    have := key σf hpair.2.1 p hp p' hp' (by omega);rw [← h1, ← h1', this]
 ·rcases ho with ho | ⟨f, hf, i, hi, rfl⟩
  ·simp only [if_pos (hlt o ho)]; exact (c5 o ho).1.1
  ·left
   have hb := hge f hf i;simp only [if_neg (show ¬ fid f.j i < 1125899906842624 by omega)];refine ⟨by omega, ?_⟩;rcases Zkm σf (fid f.j i) with h | ⟨p, hp, h1, h2⟩
   ·omega
   ·rw [h2]; exact (c6 p hp).1
 ·exact c7 o h1 h2 fun hm => ho (.inl hm)

section rules
variable {P : Program} {B X : Nat → Prop} {w0 : W0} {n : Nat} {Q : Exit → St → Prop} {S : St}
theorem Zef {c : Code} {κ : Type} (inv : κ → Prop) (L : κ → List (Nat × PV)) (Fs : κ → List Fam) (M : κ → List (Nat × Ob)) (m : κ → Nat) (k0 : κ) (h0 : inv k0) (h1 : Zf2 S (L k0) (Fs k0) (M k0))
  (round : ∀ k, inv k → PW P B X w0 n c (Zhu (fun S' => ∃ k', inv k' ∧ Zf2 S' (L k') (Fs k') (M k') ∧ m k' < m k) Q) ⟨Zbq (L k), Zao (Fs k) (Zan (M k))⟩) : PW P B X w0 n (.loop c) Q S :=
 ZoB (κ := { k : κ // inv k }) (fun k => ⟨Zbq (L k.1), Zao (Fs k.1) (Zan (M k.1))⟩) (fun k => m k.1) ⟨k0, h0⟩ h1 fun k => Zpi (round k.1 k.2) fun e S' h => by
  cases e with
  | normal => obtain ⟨k', h2, h3, h4⟩ := h; exact ⟨⟨k', h2⟩, h3, h4⟩
  | _ => exact h
end rules

theorem ZhU {S : St} (j o sz n : Nat) (h1 : S.objs o = .cells (List.replicate n .nilS)) (h2 : ∀ i, i < n → S.objs (fid j i) = .dead) (hj : 1 ≤ j) (ho : o < 1125899906842624) :
  Ent S ⟨S.env, Zao [⟨j, o, sz, n, fun _ => []⟩] S.objs⟩ := by
 rw [Zf7];intro B X w0 m a w ι hS;have cases3 : ∀ x, (x = o ∧ Zao [⟨j, o, sz, n, fun _ => []⟩] S.objs x = .cells (ZaV n (Fam.ref ⟨j, o, sz, n, fun _ => []⟩))) ∨ (S.objs x = .dead ∧ Zao [⟨j, o, sz, n, fun _ => []⟩] S.objs x = .row sz []) ∨
   (x ≠ o ∧ Zao [⟨j, o, sz, n, fun _ => []⟩] S.objs x = S.objs x) := by
  intro x;simp only [Zao];by_cases hx : x = o
  ·left; rw [if_pos hx]; exact ⟨hx, rfl⟩
  ·right
   rw [if_neg hx];by_cases hr : fid j 0 ≤ x ∧ x < fid j n
   ·left; rw [if_pos hr]
    have := h2 (x - fid j 0) (by simp only [fid] at *; omega);rw [show fid j (x - fid j 0) = x by simp only [fid] at *; omega] at this;exact ⟨this, rfl⟩
   ·right; rw [if_neg hr]; exact ⟨hx, rfl⟩
 have live : ∀ x, Zao [⟨j, o, sz, n, fun _ => []⟩] S.objs x ≠ .gone → S.objs x ≠ .gone := by
  intro x hx;rcases cases3 x with ⟨rfl, _⟩ | ⟨h, _⟩ | ⟨_, h⟩
  ·rw [h1]; simp
  ·rw [h]; simp
  ·rw [← h]; exact hx
 refine ⟨ι, hS.size, hS.defers, hS.frame, hS.hB, hS.hXB, fun o1 o2 b f1 f2 e1 e2 => hS.inj o1 o2 b (live o1 f1) (live o2 f2) e1 e2, hS.free, hS.env, fun x => ?_, hS.stay⟩;show Ob.At w ι X x (Zao _ S.objs x);have hx := hS.objs x;rcases cases3 x with ⟨rfl, h⟩ | ⟨h, h'⟩ | ⟨_, h⟩
 ·rw [h];rw [h1] at hx;cases hx with
  | cells _ b c T hι hb hsz hone hat =>
   refine .cells _ b c T hι hb (by simpa [ZaV] using hsz) hone fun i p v hi hv => ?_
   obtain ⟨hin, rfl⟩ := ZsP hi;have := hat i .nilS v (by rw [List.getElem?_replicate, if_pos hin]) hv;cases this;exact .ref0 _ _ _ _
 ·rw [h']; exact .row0 _ (hS.dead h)
 ·rw [h]; exact hx

def ZcJ (o : Nat) (dom : Nat → Prop) (ob : Nat → Ob) : Prop := ∀ x, x ≠ o → Ob.In dom (ob x)
def Zen (j k : Nat) (ob : Nat → Ob) : Nat → Ob := upd (fid j k) .dead ob
theorem Ze0 {o j k : Nat} {dom : Nat → Prop} {ob : Nat → Ob} (h : ZcJ o dom ob) : ZcJ o dom (Zen j k ob) := fun x hx => by
 simp only [Zen, upd]; split
 ·exact .dead
 ·exact h x hx
theorem ZeD {o u sz : Nat} {l : List D} {dom : Nat → Prop} {ob : Nat → Ob} (h : ZcJ o dom ob) : ZcJ o dom (upd u (.row sz l) ob) := fun x hx => by
 simp only [upd]; split
 ·exact .row _ _
 ·exact h x hx
theorem ZeE {o u : Nat} {dom : Nat → Prop} {ob : Nat → Ob} (h : ZcJ o dom ob) : ZcJ o dom (upd u .dead ob) := fun x hx => by
 simp only [upd]; split
 ·exact .dead
 ·exact h x hx
theorem Ze3 {o : Nat} {c : Ob} {dom : Nat → Prop} {ob : Nat → Ob} (h : ZcJ o dom ob) : ZcJ o dom (upd o c ob) := fun x hx => by
 simp only [upd, if_neg hx]; exact h x hx
theorem ZeY {o j k u : Nat} {ids : List Nat} {M : List (Nat × Ob)} (h : (M.all fun q => q.2.only ids) = true) (hi : (ids.all fun i => decide (i < 1125899906842624) && !(Nat.beq i u)) = true) (hj : 1 ≤ j) :
  ZcJ o (fun x => x ≠ fid j k ∧ x ≠ u) (Zan M) := fun x _ => by
 rcases ZiE M x with ⟨h1, _⟩ | ⟨p, h1, h2⟩
 ·rw [h1]; exact .dead
 ·rw [h2];simp only [List.all_eq_true] at h hi;refine (ZmI (h (x, p) h1)).mono fun y hy => ?_
  have := hi y hy;simp only [Bool.and_eq_true, decide_eq_true_eq, Bool.not_eq_true'] at this;refine ⟨by simp only [fid]; omega, fun he => ?_⟩;have := this.2;rw [he] at this; simp at this
theorem ZeU {j o sz n : Nat} {rows : Nat → List D} {dom : Nat → Prop} {Fs : List Fam} {base : Nat → Ob} (h : ZcJ o dom (Zao Fs base)) : ZcJ o dom (Zao (⟨j, o, sz, n, rows⟩ :: Fs) base) := fun x hx => by
 simp only [Zao, if_neg hx];split
 ·exact .row _ _
 ·exact h x hx
theorem Ze5 {o j k u : Nat} {f : Fam} {Fs : List Fam} {base : Nat → Ob} (hj : f.j ≠ j) (hn : f.n ≤ 1125899906842624) (hk : k < 1125899906842624) (hu : u < 1125899906842624) (h1 : 1 ≤ f.j)
  (h : ZcJ o (fun x => x ≠ fid j k ∧ x ≠ u) (Zao Fs base)) : ZcJ o (fun x => x ≠ fid j k ∧ x ≠ u) (Zao (f :: Fs) base) := fun x hx => by
 simp only [Zao];split
 ·refine .cells _ fun c hc => ?_
  simp only [ZaV, List.mem_map, List.mem_range] at hc;obtain ⟨i, hi, rfl⟩ := hc;refine .ref _ _ _ _ _ ⟨fun he => hj ?_, by simp only [fid]; omega⟩;exact (Zlr he (by omega) hk).1
 ·split
  ·exact .row _ _
  ·exact h x hx
theorem ZeO {o : Nat} {dom : Nat → Prop} {base : Nat → Ob} (h : ZcJ o dom base) : ZcJ o dom (Zao [] base) := h

theorem ZeQ (L : List (Nat × PV)) (ob : Nat → Ob) (ids : List Nat) (o k u j sz n : Nat) {r : Nat → PV} {l : List D} (ho : ob o = .cells (ZaV n r)) (hf : ob (fid j k) = .row sz l) (hr : r k = .ref (fid j k) sz 0 l.length l.length)
  (hc : ∀ i, i < n → i ≠ k → (r i).In (fun x => x ≠ fid j k ∧ x ≠ u)) (hob : ZcJ o (fun x => x ≠ fid j k ∧ x ≠ u) ob)
  (hL : (L.all fun p => p.2.only ids 4) = true) (hids : (ids.all fun i => decide (i < 1125899906842624) && !(Nat.beq i u)) = true)
  (hu : ((decide (u < 1000) || decide (2000 ≤ u)) && decide (u < 1125899906842624) && !(Nat.beq o u) && decide (1 ≤ j) && decide (o < 1125899906842624)) = true) :
  Ent ⟨Zbq L, ob⟩ ⟨Zbq L, upd u (.row sz l) (Zen j k (upd o (.cells (ZaV n (upd k (.ref u sz 0 l.length l.length) r))) ob))⟩ := by
 unfold Zen;simp only [Bool.and_eq_true, Bool.or_eq_true, decide_eq_true_eq, Bool.not_eq_true'] at hu;obtain ⟨⟨⟨⟨hu1, hu2⟩, hu3⟩, hj⟩, ho5⟩ := hu;have hou : o ≠ u := fun he => by rw [he] at hu3; simp at hu3
 have hbig : ∀ x, x < 1125899906842624 → x ≠ fid j k := fun x hx => by simp only [fid]; omega
 simp only [List.all_eq_true, Bool.and_eq_true, decide_eq_true_eq, Bool.not_eq_true'] at hL hids;refine ZqT (fun x => if x = u then fid j k else x) (fun x => x ≠ fid j k) (fun t => ?_) (fun x hx => ?_) (fun x hx => ?_) (fun x hx y hy he => ?_) (fun x hx => ?_) (fun x h1 h2 hx => ?_)
 ·rcases Zks L t with h | ⟨p, hp, h⟩
  ·exact .inl h
  ·right
   simp only [h];have hin := ZjF 4 _ (hL (t, p) hp);have hne : ∀ y, y ∈ ids → y ≠ u := fun y hy he => by have := (hids y hy).2; rw [he] at this; simp at this
   exact ⟨(ZjV hin fun y hy => if_neg (hne y hy)).symm, hin.mono fun y hy => hbig y (hids y hy).1⟩
 ·simp only [upd];by_cases h1 : x = u
  ·subst h1; rw [if_pos rfl, if_pos rfl]; exact ⟨hf, .row _ _⟩
  ·rw [if_neg h1, if_neg h1, if_neg hx];by_cases h2 : x = o
   ·subst h2;rw [if_pos rfl];refine ⟨?_, .cells _ fun c hcm => ?_⟩
    ·rw [ho];simp only [Ob.ren]
     congr 1
     simp only [ZaV, List.map_map];refine List.map_congr_left fun i hi => ?_
     have hi := List.mem_range.1 hi;simp only [Function.comp];by_cases hik : i = k
     ·subst hik; rw [upd, if_pos rfl, hr]; simp only [PV.ren, if_pos]
     ·rw [upd, if_neg hik];exact (ZjV (hc i hi hik) fun y hy => if_neg hy.2).symm
    ·simp only [ZaV, List.mem_map, List.mem_range] at hcm;obtain ⟨i, hi, rfl⟩ := hcm;by_cases hik : i = k
     ·rw [upd, if_pos hik]; exact .ref _ _ _ _ _ (hbig u hu2)
     ·rw [upd, if_neg hik]; exact (hc i hi hik).mono fun y hy => hy.1
   ·rw [if_neg h2];have hin := hob x h2;exact ⟨(ZoM hin fun y hy => if_neg hy.2).symm, hin.mono fun y hy => hy.1⟩
 ·have hx : x = fid j k := Classical.not_not.1 hx;subst hx;show upd u _ _ _ = _;rw [upd, if_neg (fun he => hbig u hu2 he.symm), upd, if_pos rfl]
 ·split at he <;> split at he
  ·omega
  ·exact absurd he.symm hy
  ·exact absurd he hx
  ·exact he
 ·by_cases h1 : x = u
  ·subst h1; left; rw [if_pos rfl]; refine ⟨hu1, ?_⟩; simp only [fid]; omega
  ·right; rw [if_neg h1]
 ·have hx : x = fid j k := Classical.not_not.1 hx;simp only [fid] at hx; omega

theorem Zia (f : Fam) (Fs : List Fam) (L : List (Nat × PV)) (M : List (Nat × Ob)) (ha : Zg0 (f :: Fs)) (hMo : (M.all fun q => decide (q.1 < 1125899906842624) && !(Nat.beq q.1 f.o)) = true)
  (ids : List Nat) (hL : (L.all fun p => p.2.only ids 4) = true) (hM : (M.all fun q => q.2.only ids) = true) (hids : (ids.all fun i => decide (i < 1125899906842624)) = true)
  (hng : (M.all fun q => match q.2 with | .gone => false | _ => true) = true) :
  Ent ⟨Zbq L, Zao (f :: Fs) (Zan M)⟩ ⟨Zbq L, Zao Fs (Zan ((f.o, .row 1 ((List.range f.n).map fun i => .sl (f.rows i))) :: M))⟩ := by
 rw [Zf7];intro B X w0 m a w ι hS;have dec := fun x => Classical.propDecidable (∃ i, i < f.n ∧ x = fid f.j i)
 have hf := ha.2.2 f (by simp);simp only [List.all_eq_true, Bool.and_eq_true, decide_eq_true_eq, Bool.not_eq_true'] at hL hM hids hMo
 let ι' : Nat → Option Nat := fun x => if ∃ i, i < f.n ∧ x = fid f.j i then none else ι x
 have hsub : ∀ x b, ι' x = some b → (¬ ∃ i, i < f.n ∧ x = fid f.j i) ∧ ι x = some b := by
  intro x b h;by_cases hx : ∃ i, i < f.n ∧ x = fid f.j i
  ·simp only [ι', if_pos hx] at h; cases h
  ·simp only [ι', if_neg hx] at h; exact ⟨hx, h⟩
 have hκ : ∀ x, (¬ ∃ i, i < f.n ∧ x = fid f.j i) → ι' x = ι x := fun x hx => if_neg hx
 have hX : ∀ b, ownX ι' X b → ownX ι X b := by
  rintro b (hb | ⟨o, hb⟩)
  ·exact .inl hb
  ·exact .inr ⟨o, (hsub o b hb).2⟩
 have nogone : ∀ x, Zao (f :: Fs) (Zan M) x ≠ .gone := by
  have hb : ∀ x, Zan M x ≠ .gone := ZcR M hng;have : ∀ (Fs : List Fam) x, Zao Fs (Zan M) x ≠ .gone := by
   intro Fs
   induction Fs with
   | nil => exact hb
   | cons g Fs ih => intro x; simp only [Zao]; split; · simp
                     · split
                       · simp
                       · exact ih x
  exact this _
 have hnb : ∀ i b, i < f.n → ι (fid f.j i) = some b → ¬ ownX ι' X b := by
  intro i b hi hι;rintro (hx | ⟨o', ho'⟩)
  ·exact (hS.free _ b hι).1 (hS.hXB.1 b hx)
  ·obtain ⟨h1, h2⟩ := hsub o' b ho';exact h1 ⟨i, hi, hS.inj o' _ b (nogone _) (nogone _) h2 hι⟩
 have small : ∀ x, x < 1125899906842624 → ¬ ∃ i, i < f.n ∧ x = fid f.j i := by
  rintro x hx ⟨i, _, rfl⟩;simp only [fid] at hx; omega
 have hpv : ∀ p v, PV.In (fun x => ¬ ∃ i, i < f.n ∧ x = fid f.j i) p → PV.At w ι X p v → PV.At w ι' X p v := by
  intro p v hin hp;refine Zlg (g := fun x => x) (dom := fun x => ¬ ∃ i, i < f.n ∧ x = fid f.j i) hκ hX hin v ?_;rw [ZjV hin fun _ _ => rfl]; exact hp
 have hobv : ∀ x ob, (¬ ∃ i, i < f.n ∧ x = fid f.j i) → Ob.In (fun x => ¬ ∃ i, i < f.n ∧ x = fid f.j i) ob → Ob.At w ι X x ob → Ob.At w ι' X x ob := by
  intro x ob hx hin hp;refine Zp2 (g := fun x => x) (dom := fun x => ¬ ∃ i, i < f.n ∧ x = fid f.j i) hκ hX hx hin ?_;rw [ZoM hin fun _ _ => rfl]; exact hp
 -- what the new state's objects are
 have hnew : ∀ x, (x = f.o ∧ Zao Fs (Zan ((f.o, .row 1 ((List.range f.n).map fun i => .sl (f.rows i))) :: M)) x = .row 1 ((List.range f.n).map fun i => .sl (f.rows i))) ∨
   ((∃ i, i < f.n ∧ x = fid f.j i) ∧ Zao Fs (Zan ((f.o, .row 1 ((List.range f.n).map fun i => .sl (f.rows i))) :: M)) x = .dead) ∨
   (x ≠ f.o ∧ (¬ ∃ i, i < f.n ∧ x = fid f.j i) ∧ Zao Fs (Zan ((f.o, .row 1 ((List.range f.n).map fun i => .sl (f.rows i))) :: M)) x = Zao (f :: Fs) (Zan M) x) := by
  intro x;by_cases h1 : x = f.o
  ·left
   refine ⟨h1, ?_⟩;subst h1;rw [ZhI fun g hg => ⟨fun he => ?_, fun i hi he => ?_⟩]
   ·exact if_pos rfl
   ·have := ha.2.1;simp only [List.map_cons, List.nodup_cons] at this;exact this.1 (List.mem_map.2 ⟨g, hg, he.symm⟩)
   ·have := (ha.2.2 g (List.mem_cons_of_mem _ hg)).1;have h3 := hf.2.1;rw [he] at h3; simp only [fid] at h3; omega
  ·right
   by_cases h2 : ∃ i, i < f.n ∧ x = fid f.j i
   ·left
    refine ⟨h2, ?_⟩;obtain ⟨i, hi, rfl⟩ := h2;rw [ZhI fun g hg => ⟨fun he => ?_, fun i' hi' he => ?_⟩]
    ·refine Zhq _ _ fun hm => ?_
     simp only [List.map_cons, List.mem_cons] at hm;rcases hm with he | hm
     ·exact h1 he
     ·obtain ⟨q, hq, he⟩ := List.mem_map.1 hm;have := (hMo q hq).1;rw [he] at this; simp only [fid] at this; omega
    ·have := (ha.2.2 g (List.mem_cons_of_mem _ hg)).2.1;rw [← he] at this; simp only [fid] at this; omega
    ·have hgn := (ha.2.2 g (List.mem_cons_of_mem _ hg)).2.2;have := (Zlr he (by omega) (by omega)).1;have h5 := ha.1;simp only [List.map_cons, List.nodup_cons] at h5;exact h5.1 (List.mem_map.2 ⟨g, hg, this.symm⟩)
   ·right
    refine ⟨h1, h2, ?_⟩;show _ = Zao (f :: Fs) (Zan M) x;simp only [Zao];rw [if_neg h1, if_neg (fun hx => h2 ⟨x - fid f.j 0, by simp only [fid] at *; omega, by simp only [fid] at *; omega⟩)];have e : ∀ (Fs : List Fam), Zao Fs (Zan ((f.o, .row 1 ((List.range f.n).map fun i => .sl (f.rows i))) :: M)) x = Zao Fs (Zan M) x := by
     intro Fs
     induction Fs with
     | nil => exact if_neg h1
     | cons g Fs ih => simp only [Zao]; rw [ih]
    exact e Fs
 refine ⟨ι', hS.size, hS.defers, hS.frame, hS.hB, hS.hXB, fun o1 o2 b _ _ e1 e2 => hS.inj o1 o2 b (nogone _) (nogone _) (hsub o1 b e1).2 (hsub o2 b e2).2, fun o b hb => hS.free o b (hsub o b hb).2, fun t => ?_, fun x => ?_, fun o b hb => ?_⟩
 ·have := hS.env t;show PV.At w ι' X (Zbq L t) _;have this : PV.At w ι X (Zbq L t) _ := this;rcases Zks L t with h | ⟨p, hp, h⟩
  ·rw [h]; exact .unk _
  ·rw [h] at this ⊢;exact hpv p _ ((ZjF 4 _ (hL (t, p) hp)).mono fun y hy => small y (hids y hy)) this
 ·show Ob.At w ι' X x (Zao Fs (Zan ((f.o, .row 1 ((List.range f.n).map fun i => .sl (f.rows i))) :: M)) x);rcases hnew x with ⟨rfl, h⟩ | ⟨hx, h⟩ | ⟨h1, h2, h⟩
  ·rw [h];have ho := hS.objs f.o;rw [show (⟨Zbq L, Zao (f :: Fs) (Zan M)⟩ : St).objs f.o = .cells (ZaV f.n f.ref) from Zmw ha (by simp)] at ho;cases ho with
   | cells _ b c T hι hb hsz hone hat =>
    refine .row 1 _ b c T ((hκ _ (small _ hf.2.1)).trans hι) hb (by simp [ZaV] at hsz ⊢; omega) (fun d hd => ?_) hone fun i d j e v hi hj hv => ?_
    ·obtain ⟨i, _, rfl⟩ := List.mem_map.1 hd; rfl
    ·rw [List.getElem?_map] at hi;cases hr : (List.range f.n)[i]? with
     | none => rw [hr] at hi; cases hi
     | some i' =>
      rw [hr] at hi;have hin : i < f.n := by simpa using (List.getElem?_eq_some_iff.1 hr).1
      have hii : i' = i := by rw [List.getElem?_range hin] at hr; cases hr; rfl
      subst hii;simp only [Option.map_some, Option.some.injEq] at hi;subst hi;have hj0 : j = 0 ∧ e = .sl (f.rows i') := by
       simp only [D.cells] at hj;cases j with
       | zero => simp at hj; exact ⟨rfl, hj.symm⟩
       | succ j => simp at hj
      obtain ⟨rfl, rfl⟩ := hj0;rw [Nat.mul_one, Nat.add_zero] at hv;have hat' := hat i' (f.ref i') v (ZiA hin) hv;have hrow := hS.objs (fid f.j i');rw [show (⟨Zbq L, Zao (f :: Fs) (Zan M)⟩ : St).objs (fid f.j i') = .row f.sz (f.rows i') from ZkG ha (by simp) hin] at hrow;have hnbi := fun b => hnb i' b hin
      simp only [Fam.ref] at hat';generalize f.rows i' = l at hat' hrow ⊢;generalize hlen : l.length = len at hat';cases hat' with
      | ref0 _ _ _ base =>
       have : l = [] := List.length_eq_zero_iff.1 hlen;subst this;exact .slnil _ _
      | ref _ _ _ _ _ capr b' hι' hl hc hm hs =>
       cases hrow with
       | row0 _ h => rw [h] at hι'; cases hι'
       | row _ _ b2 c' T' hι'' hb' hsz' hcl' hone' hat'' =>
        obtain rfl : b2 = b' := by rw [hι''] at hι'; exact Option.some.inj hι'
        have cell : ∀ (i : Nat) d (j : Nat) e, l[i]? = some d → d.cells[j]? = some e → ∃ v, c'[i * f.sz + j]? = some v ∧ v.oneCell' = true ∧ D.At w (ownX ι' X) e v := by
         intro i d j e hi hj;have hjs : j < f.sz := by rw [← hcl' d (List.mem_of_getElem? hi)]; exact (List.getElem?_eq_some_iff.1 hj).1
         have hil := (List.getElem?_eq_some_iff.1 hi).1;have hlt : i * f.sz + j < c'.size := by
          have : (i + 1) * f.sz ≤ l.length * f.sz := Nat.mul_le_mul_right _ (by omega);rw [Nat.add_mul] at this; omega
         have hg : c'[i * f.sz + j]? = some c'[i * f.sz + j] := Array.getElem?_eq_getElem hlt;exact ⟨_, hg, hone' _ _ hg, (hat'' i d j e _ hi hj hg).sub hX⟩
        have := D.At.sl (w := w) (X := ownX ι' X) l b2 (0 * f.sz) capr f.sz (by rw [hlen]; exact hl) hm hcl'
         (fun i j => (w.cell? ⟨b2, 0 * f.sz + i * f.sz + j, none⟩).getD undef) (fun i d j e hi hj => by
          obtain ⟨v, g2, g3, g4⟩ := cell i d j e hi hj;have hc : w.cell? ⟨b2, 0 * f.sz + i * f.sz + j, none⟩ = some v := by rw [ZcD hb', Nat.zero_mul, Nat.zero_add]; exact g2
          rw [hc];exact ⟨rfl, g3, hnbi b2 hι''⟩) (fun i d j e hi hj => by
          obtain ⟨v, g2, g3, g4⟩ := cell i d j e hi hj;have hc : w.cell? ⟨b2, 0 * f.sz + i * f.sz + j, none⟩ = some v := by rw [ZcD hb', Nat.zero_mul, Nat.zero_add]; exact g2
          rw [hc];exact g4)
        rw [hlen] at this;exact this
  ·rw [h]; exact .dead (if_pos hx)
  ·rw [h];refine hobv x _ h2 ?_ (hS.objs x);have e : ∀ (Fs : List Fam), (∀ g, g ∈ Fs → g.j ≠ f.j ∧ g.n ≤ 1125899906842624) → ∀ x, Ob.In (fun x => ¬ ∃ i, i < f.n ∧ x = fid f.j i) (Zao Fs (Zan M) x) := by
    intro Fs
    induction Fs with
    | nil =>
     intro _ x;show Ob.In _ (Zan M x);rcases ZiE M x with ⟨h1, _⟩ | ⟨p, h1, h2⟩
     ·rw [h1]; exact .dead
     ·rw [h2]; exact (ZmI (hM (x, p) h1)).mono fun y hy => small y (hids y hy)
    | cons g Fs ih =>
     intro hg x;simp only [Zao];split
     ·refine .cells _ fun c hc => ?_
      simp only [ZaV, List.mem_map, List.mem_range] at hc;obtain ⟨i, hi, rfl⟩ := hc;refine .ref _ _ _ _ _ ?_;rintro ⟨i', hi', he⟩;have := hg g (by simp);exact this.1 (Zlr he (by omega) (by omega)).1
     ·split
      ·exact .row _ _
      ·exact ih (fun g' hg' => hg g' (List.mem_cons_of_mem _ hg')) x
   show Ob.In _ (Zao (f :: Fs) (Zan M) x);have hne : ¬ (fid f.j 0 ≤ x ∧ x < fid f.j f.n) := fun hx => h2 ⟨x - fid f.j 0, by simp only [fid] at *; omega, by simp only [fid] at *; omega⟩
   simp only [Zao];rw [if_neg h1, if_neg hne];refine e Fs (fun g hg => ⟨fun he => ?_, (ha.2.2 g (List.mem_cons_of_mem _ hg)).2.2⟩) x;have h5 := ha.1;simp only [List.map_cons, List.nodup_cons] at h5;exact h5.1 (List.mem_map.2 ⟨g, hg, he⟩)
 ·obtain ⟨g1, g2, g3⟩ := hS.stay o b hb;exact ⟨g1, (hκ o (small o (by omega))).trans g2, g3⟩

/-! ### Reckoning with families. -/
@[go_sem] theorem Ze1 {t j i : Nat} (h : t < 1125899906842624) (hj : 1 ≤ j) : (t = fid j i) = False := by
 simp only [fid, eq_iff_iff, iff_false]; omega
@[go_sem] theorem ZeR {t j i : Nat} (h : t < 1125899906842624) (hj : 1 ≤ j) : (fid j i = t) = False := by
 simp only [fid, eq_iff_iff, iff_false]; omega
@[go_sem] theorem Zwi {j a b : Nat} : (fid j a = fid j b) = (a = b) := by simp only [fid, eq_iff_iff]; omega
@[go_sem] theorem ZpG {base : Nat → Ob} : Zao [] base = base := rfl
def ZxW : List Fam → (Nat → Ob) → Nat → Ob := Zao
@[go_sem] theorem ZBJ {j o sz n t : Nat} {rows : Nat → List D} {fs : List Fam} {base : Nat → Ob} :
  Zao (⟨j, o, sz, n, rows⟩ :: fs) base t = if t < 1125899906842624 ∧ 1 ≤ j then (if t = o then .cells (ZaV n (Fam.ref ⟨j, o, sz, n, rows⟩)) else Zao fs base t) else ZxW (⟨j, o, sz, n, rows⟩ :: fs) base t := by
 split
 ·rename_i h;simp only [Zao];rw [if_neg (show ¬ (fid j 0 ≤ t ∧ t < fid j n) by simp only [fid]; omega)]
 ·rfl
@[go_sem high] theorem ZAr {j o sz n i : Nat} {rows : Nat → List D} {fs : List Fam} {base : Nat → Ob} (h : o < 1125899906842624) (hj : 1 ≤ j) (hi : i < n) :
  Zao (⟨j, o, sz, n, rows⟩ :: fs) base (fid j i) = .row sz (rows i) := by
 simp only [Zao];rw [if_neg (by simp only [fid]; omega), if_pos (by simp only [fid]; omega)]
 congr 2; simp only [fid]; omega
def ZwI : Nat → Nat → (Nat → Ob) → Nat → Ob := Zen
@[go_sem] theorem ZAs {j k t : Nat} {ob : Nat → Ob} : Zen j k ob t = if t < 1125899906842624 ∧ 1 ≤ j then ob t else ZwI j k ob t := by
 split
 ·rename_i h;exact if_neg (by simp only [fid]; omega)
 ·rfl
@[go_sem high] theorem ZAg {j k i : Nat} {ob : Nat → Ob} : Zen j k ob (fid j i) = if i = k then .dead else ob (fid j i) := by
 simp only [Zen, upd, Zwi]
theorem ZiL {M : List (Nat × Ob)} {j i : Nat} (h : (M.all fun q => decide (q.1 < 1125899906842624)) = true) (hj : 1 ≤ j) : Zan M (fid j i) = .dead := by
 refine Zhq M _ fun hm => ?_
 obtain ⟨q, hq, he⟩ := List.mem_map.1 hm;simp only [List.all_eq_true, decide_eq_true_eq] at h;have := h q hq;rw [he] at this; simp only [fid] at this; omega
def ZqO (n : Nat) (r : Nat → PV) (k : Nat) : List PV := (ZaV n r).drop (k + 1)
@[go_sem high] theorem ZBZ {n k : Nat} {r : Nat → PV} (h : k < n) : (ZaV n r).drop k = r k :: ZqO n r k := by
 rw [ZqO, List.drop_eq_getElem_cons (by simpa [ZaV] using h)]
 congr 1
 simp [ZaV]
@[go_sem] theorem ZlW {n : Nat} {r : Nat → PV} : (ZaV n r).length = n := by simp [ZaV]
@[go_sem high] theorem ZCl {n k : Nat} {r : Nat → PV} {x : PV} (h : k < n) : ZbF (ZaV n r) k [x] = ZaV n (upd k x r) := by
 refine List.ext_getElem? fun i => ?_
 have hl : (ZaV n r).length = n := ZlW;simp only [ZbF, List.length_singleton];by_cases hi : i < n
 ·rw [ZiA hi];rcases Nat.lt_trichotomy i k with h1 | h1 | h1
  ·rw [List.append_assoc, List.getElem?_append_left (by simp; omega), List.getElem?_take_of_lt h1, ZiA hi, upd, if_neg (by omega)]
  ·subst h1;have e : (List.take i (ZaV n r)).length = i := by rw [List.length_take, hl]; omega
   rw [List.append_assoc, List.getElem?_append_right (by omega), upd, if_pos rfl, e, Nat.sub_self]; rfl
  ·have e : (List.take k (ZaV n r) ++ [x]).length = k + 1 := by rw [List.length_append, List.length_take, hl, List.length_singleton]; omega
   rw [List.getElem?_append_right (by omega), List.getElem?_drop, upd, if_neg (by omega), ← ZiA hi, e]
   congr 1; omega
 ·rw [List.getElem?_eq_none (by simp [hl]; omega), List.getElem?_eq_none (by rw [ZlW]; omega)]
@[go_sem] theorem ZBr {n : Nat} {r : Nat → PV} : (ZaV n r).take n = ZaV n r := List.take_of_length_le (by rw [ZlW]; exact Nat.le_refl _)
@[go_sem] theorem ZBp {n : Nat} {r : Nat → PV} {x : PV} : ZaV n r ++ [x] = ZaV (n + 1) (upd n x r) := by
 rw [ZaV, ZaV, List.range_succ, List.map_append]
 congr 1
 ·exact List.map_congr_left fun i hi => by rw [upd, if_neg (by have := List.mem_range.1 hi; omega)]
 ·simp [upd]
attribute [go_sem] Fam.ref Nat.mul_one
theorem Zmt {ids : List Nat} {f : Fam} {Fs : List Fam} {base : Nat → Ob} (h1 : (decide (f.o < 1000) || decide (2000 ≤ f.o) || ids.contains f.o) = true) (hj : Nat.ble 1 f.j = true) (h : ZbU ids (Zao Fs base)) : ZbU ids (Zao (f :: Fs) base) := by
 intro o h2 h3 h4;simp only [Bool.or_eq_true, decide_eq_true_eq, List.contains_eq_mem] at h1;have hj := Nat.le_of_ble_eq_true hj
 have hne : o ≠ f.o := fun he => by subst he; rcases h1 with (h | h) | h; · omega
                                    · omega
                                    · exact h4 h
 simp only [Zao];rw [if_neg hne, if_neg (by simp only [fid]; omega)];exact h o h2 h3 h4
theorem ZkM {ids : List Nat} {base : Nat → Ob} (h : ZbU ids base) : ZbU ids (Zao [] base) := h
theorem ZlH {ids : List Nat} {objs : Nat → Ob} {j k : Nat} (hj : Nat.ble 1 j = true) (h : ZbU ids objs) : ZbU ids (Zen j k objs) := by
 intro o h1 h2 h3;have hj := Nat.le_of_ble_eq_true hj;rw [Zen, upd, if_neg (by simp only [fid]; omega)]; exact h o h1 h2 h3
theorem ZkX {j i t : Nat} (hj : 1 ≤ j) (h : t < 1125899906842624) : fid j i ≠ t ∧ ¬ (fid j 0 ≤ t ∧ t < fid j i) := by
 simp only [fid]; omega
theorem ZwN (o sz : Nat) (l : List D) (base : Nat → Ob) (ho : o < 1125899906842624) : ∀ (Fs : List Fam), (∀ f, f ∈ Fs → o ≠ f.o ∧ 1 ≤ f.j) → ∀ x, upd o .dead (ZfF o sz l (Zao Fs base)) x = Zao Fs (upd o .dead (ZfF o sz l base)) x := by
 intro Fs
 induction Fs with
 | nil => intro _ x; rw [ZpG, ZpG]
 | cons f Fs ihF =>
  intro h x;obtain ⟨hof, hj⟩ := h f (by simp);have ih := ihF (fun g hg => h g (List.mem_cons_of_mem _ hg)) x;simp only [Zao];by_cases hx : x = o
  ·have hxf : ¬ x = f.o := fun he => hof (hx.symm.trans he)
   rw [if_neg hxf, if_neg (by rw [hx]; exact (ZkX hj ho).2), ← ih, upd, if_pos hx, upd, if_pos hx]
  ·rw [← ih, upd, if_neg hx, Zfn, upd, if_neg hx, Zfn];by_cases h1 : x = f.o
   ·rw [if_pos h1, if_pos h1];simp only [Ob.frz, PV.frzL_eq]
    congr 1
    simp only [ZaV, List.map_map];refine List.map_congr_left fun i _ => ?_
    simp only [Function.comp, Fam.ref, PV.frz];rw [if_neg (ZkX hj ho).1]
   ·rw [if_neg h1, if_neg h1];by_cases h2 : fid f.j 0 ≤ x ∧ x < fid f.j f.n
    ·rw [if_pos h2, if_pos h2]; rfl
    ·rw [if_neg h2, if_neg h2]
theorem ZrQ (L : List (Nat × PV)) (Fs : List Fam) (M : List (Nat × Ob)) (o sz : Nat) (l : List D) (hM : Zan M o = .row sz l) (hF : (Fs.all fun f => !(Nat.beq o f.o) && Nat.ble 1 f.j) = true) (ho : decide (o < 1125899906842624) = true)
  (hng : (M.all fun q => match q.2 with | .gone => false | _ => true) = true) (hmv : o < 1000 ∨ 2000 ≤ o) : Ent ⟨Zbq L, Zao Fs (Zan M)⟩ ⟨ZlI o sz l (Zbq L), Zao Fs (upd o .dead (ZfF o sz l (Zan M)))⟩ := by
 have ho : o < 1125899906842624 := of_decide_eq_true ho;have hF' : ∀ f, f ∈ Fs → o ≠ f.o ∧ 1 ≤ f.j := by
  intro f hf;simp only [List.all_eq_true, Bool.and_eq_true, Bool.not_eq_true'] at hF;have h1 := hF f hf;exact ⟨fun he => by have := h1.1; rw [he] at this; simp at this, Nat.le_of_ble_eq_true h1.2⟩
 have h2 : Zao Fs (Zan M) o = .row sz l := by
  rw [ZhI fun f hf => ⟨(hF' f hf).1, fun i _ he => (ZkX (hF' f hf).2 ho).1 he.symm⟩];exact hM
 have nog : ∀ (Fs : List Fam) x, Zao Fs (Zan M) x ≠ .gone := by
  intro Fs
  induction Fs with
  | nil => exact ZcR M hng
  | cons g Fs ih => intro x; simp only [Zao]; split; · simp
                    · split
                      · simp
                      · exact ih x
 have := Zc5 (S := ⟨Zbq L, Zao Fs (Zan M)⟩) o sz l h2 (nog Fs) hmv;rw [show (upd o .dead (ZfF o sz l (Zao Fs (Zan M))) : Nat → Ob) = Zao Fs (upd o .dead (ZfF o sz l (Zan M))) from funext (ZwN o sz l (Zan M) ho Fs hF')] at this;exact this
theorem ZqD {S : St} (o n : Nat) (h1 : S.objs o = .cells (List.replicate n .nilS)) : Ent S ⟨S.env, upd o (.row 1 (List.replicate n (.sl []))) S.objs⟩ := by
 rw [Zf7];intro B X w0 m a w ι hS;refine ⟨ι, hS.size, hS.defers, hS.frame, hS.hB, hS.hXB, fun o1 o2 b f1 f2 e1 e2 => ?_, hS.free, hS.env, fun p => ?_, hS.stay⟩
 ·have live : ∀ o', upd o (.row 1 (List.replicate n (.sl []))) S.objs o' ≠ .gone → S.objs o' ≠ .gone := by
   intro o' hg;by_cases he : o' = o
   ·rw [he, h1]; simp
   ·simp only [upd, if_neg he] at hg; exact hg
  exact hS.inj o1 o2 b (live o1 f1) (live o2 f2) e1 e2
 ·by_cases hp : p = o
  ·subst hp;have hq := hS.objs p;rw [h1] at hq;simp only [upd, if_true];cases hq with
   | cells _ b c T hι hb hsz hone h =>
    have hd : ∀ d, d ∈ List.replicate n (D.sl []) → d = .sl [] := fun d hd => List.eq_of_mem_replicate hd
    refine .row 1 _ b c T hι hb (by rw [List.length_replicate] at hsz ⊢; omega) (fun d h => by rw [hd d h]; rfl) hone fun i d j e v hi hj hv => ?_
    have hdi := hd d (List.mem_of_getElem? hi);subst hdi;have hin : i < n := by
     have := (List.getElem?_eq_some_iff.1 hi).1;simpa using this
    rcases j with _ | j
    ·simp only [D.cells, List.getElem?_cons_zero, Option.some.injEq] at hj;subst hj;have := h i .nilS v (by rw [List.getElem?_replicate, if_pos hin]) (by simpa using hv);cases this;exact .slnil none 0
    ·simp [D.cells] at hj
  ·simp only [upd, if_neg hp]; exact hS.objs p
theorem Zt9 {S : St} {L : List (Nat × PV)} {Fs : List Fam} {M : List (Nat × Ob)} : Zf2 S L Fs M ↔ Ent S ⟨Zbq L, Zao Fs (Zan M)⟩ := Iff.rfl
attribute [irreducible] Zf2 Zao fid ZaV Zen
theorem PV.At.rn {w : World} {ι ι' : Nat → Option Nat} {X : Nat → Prop} {g : Nat → Nat} (hι : ∀ o b, ι o = some b → ι' (g o) = some b) (hX : ∀ b, ownX ι' X b → ownX ι X b) {p : PV} {v : Value} (h : PV.At w ι X p v) : PV.At w ι' X (p.ren g) v := by
 induction h with
 | d x v h => simp only [PV.ren]; exact .d _ _ (h.sub hX)
 | ref o sz off len cap capr b hb hl hc hm hs => simp only [PV.ren]; exact .ref _ sz off len cap capr b (hι o b hb) hl hc hm hs
 | ref0 o sz off base => simp only [PV.ren]; exact .ref0 _ _ _ base
 | ptr o sz i c b hb => simp only [PV.ren]; exact .ptr _ sz i c b (hι o b hb)
 | nilS => simp only [PV.ren]; exact .nilS
 | z0 base => simp only [PV.ren]; exact .z0 base
 | ag cs arr hsz hone _ ih =>
  simp only [PV.ren, PV.renL_eq];refine .ag _ arr (by simpa using hsz) hone fun j p v hj hv => ?_
  rw [List.getElem?_map] at hj;cases hq : cs[j]? with
  | none => rw [hq] at hj; cases hj
  | some q => rw [hq] at hj; cases hj; exact ih j q v hq hv
 | tup cs arr hsz _ ih =>
  simp only [PV.ren, PV.renL_eq];refine .tup _ arr (by simpa using hsz) fun j p v hj hv => ?_
  rw [List.getElem?_map] at hj;cases hq : cs[j]? with
  | none => rw [hq] at hj; cases hj
  | some q => rw [hq] at hj; cases hj; exact ih j q v hq hv
 | fn f cs arr hsz _ ih =>
  simp only [PV.ren, PV.renL_eq];refine .fn f _ arr (by simpa using hsz) fun j p v hj hv => ?_
  rw [List.getElem?_map] at hj;cases hq : cs[j]? with
  | none => rw [hq] at hj; cases hj
  | some q => rw [hq] at hj; cases hj; exact ih j q v hq hv
 | unk v => simp only [PV.ren]; exact .unk v
 | und => simp only [PV.ren]; exact .und
 | ab b => simp only [PV.ren]; exact .ab b
 | mp o b hb => simp only [PV.ren]; exact .mp _ b (hι o b hb)
 | ifp T o b hb => simp only [PV.ren]; exact .ifp T _ b (hι o b hb)
theorem Ob.At.rn {w : World} {ι ι' : Nat → Option Nat} {X : Nat → Prop} {g : Nat → Nat} (hι : ∀ o b, ι o = some b → ι' (g o) = some b) (hX : ∀ b, ownX ι' X b → ownX ι X b) {o o' : Nat} (ho : ι' o' = ι o) {ob : Ob} (h : Ob.At w ι X o ob) : Ob.At w ι' X o' (ob.ren g) := by
 cases h with
 | dead h => simp only [Ob.ren]; exact .dead (ho.trans h)
 | gone => simp only [Ob.ren]; exact .gone
 | cells cs b c T hb hbb hsz hone hat =>
  simp only [Ob.ren];refine .cells _ b c T (ho.trans hb) hbb (by simpa using hsz) hone fun j p v hj hv => ?_
  rw [List.getElem?_map] at hj;cases hq : cs[j]? with
  | none => rw [hq] at hj; cases hj
  | some q => rw [hq] at hj; cases hj; exact (hat j q v hq hv).rn hι hX
 | row0 sz h => simp only [Ob.ren]; exact .row0 sz (ho.trans h)
 | row sz l b c T hb hbb hsz hcl hone hat => simp only [Ob.ren]; exact Ob.At.row (o := o') (X := X) sz l b c T (ho.trans hb) hbb hsz hcl hone fun i d j e v hi hj hv => (hat i d j e v hi hj hv).sub hX
 | imap l b es clock hb hbb he => simp only [Ob.ren]; exact .imap l b es clock (ho.trans hb) hbb he
 | iter m k sn b bm hb hm hbb => simp only [Ob.ren]; exact .iter _ k sn b bm (ho.trans hb) (hι m bm hm) hbb

def mvG (o o2 : Nat) (x : Nat) : Nat := if x = o then o2 else x
theorem Zh3 {S : St} (o o2 : Nat) (h2 : S.objs o2 = .dead) (hne : o ≠ o2) (hpass : o2 < 1000 ∨ 2000 ≤ o2) :
  Ent S ⟨fun t => (S.env t).ren (mvG o o2), fun x => if x = o then .gone else if x = o2 then (S.objs o).ren (mvG o o2) else (S.objs x).ren (mvG o o2)⟩ := by
 rw [Zf7];intro B X w0 m a w ι hS;have hd : ι o2 = none := hS.dead h2
 let ι' : Nat → Option Nat := fun x => if x = o2 then ι o else ι x
 have e1 : ∀ x, x ≠ o2 → ι' x = ι x := fun x hx => if_neg hx
 have e2 : ι' o2 = ι o := if_pos rfl;have hι : ∀ x b, ι x = some b → ι' (mvG o o2 x) = some b := fun x b hb => by
  by_cases c : x = o
  ·subst c; rw [mvG, if_pos rfl, e2]; exact hb
  ·rw [mvG, if_neg c, e1 x (fun h => by rw [h, hd] at hb; cases hb)]; exact hb
 have hX : ∀ b, ownX ι' X b → ownX ι X b := by
  rintro b (hb | ⟨x, hb⟩)
  ·exact .inl hb
  ·by_cases c : x = o2
   ·rw [c, e2] at hb; exact .inr ⟨o, hb⟩
   ·rw [e1 x c] at hb; exact .inr ⟨x, hb⟩
 -- what is not gone comes of what was not gone
 have live : ∀ x, (if x = o then Ob.gone else if x = o2 then (S.objs o).ren (mvG o o2) else (S.objs x).ren (mvG o o2)) ≠ .gone → (x = o2 ∧ S.objs o ≠ .gone) ∨ (x ≠ o2 ∧ x ≠ o ∧ S.objs x ≠ .gone) := by
  intro x hx;by_cases c : x = o
  ·rw [if_pos c] at hx; exact absurd rfl hx
  ·rw [if_neg c] at hx;by_cases c2 : x = o2
   ·rw [if_pos c2] at hx; exact .inl ⟨c2, fun h => hx (by rw [h]; rfl)⟩
   ·rw [if_neg c2] at hx; exact .inr ⟨c2, c, fun h => hx (by rw [h]; rfl)⟩
 refine ⟨ι', hS.size, hS.defers, hS.frame, hS.hB, hS.hXB, fun x y b fx fy ex ey => ?_, fun x b e => ?_, fun t => (hS.env t).rn hι hX, fun x => ?_, fun x b hb => ?_⟩
 ·rcases live x fx with ⟨rfl, hx⟩ | ⟨hx1, hx2, hx⟩ <;> rcases live y fy with ⟨rfl, hy⟩ | ⟨hy1, hy2, hy⟩
  ·rfl
  ·rw [e2] at ex; rw [e1 y hy1] at ey;exact absurd (hS.inj o y b hx hy ex ey).symm hy2
  ·rw [e2] at ey; rw [e1 x hx1] at ex;exact absurd (hS.inj x o b hx hy ex ey) hx2
  ·rw [e1 x hx1] at ex; rw [e1 y hy1] at ey;exact hS.inj x y b hx hy ex ey
 ·by_cases c : x = o2
  ·rw [c, e2] at e; exact hS.free o b e
  ·rw [e1 x c] at e; exact hS.free x b e
 ·show Ob.At w ι' X x (if x = o then Ob.gone else if x = o2 then (S.objs o).ren (mvG o o2) else (S.objs x).ren (mvG o o2));by_cases c : x = o
  ·rw [if_pos c]; exact .gone
  ·rw [if_neg c];by_cases c2 : x = o2
   ·rw [if_pos c2, c2]; exact (hS.objs o).rn hι hX e2
   ·rw [if_neg c2]; exact (hS.objs x).rn hι hX (e1 x c2)
 ·obtain ⟨g1, g2, g3⟩ := hS.stay x b hb;exact ⟨g1, (e1 x (by omega)).trans g2, g3⟩
attribute [go_sem] mvG
theorem Zt7 {P : Program} {B X : Nat → Prop} {w0 : W0} {n : Nat} {c : Code} {Q : Exit → St → Prop} {S : St} :
  PW P B X w0 n c Q S ↔ ∀ a w ι, Hold B X (w0.of P) n S a w ι → c.wp P (fun e a' w' => ∃ S' ι', Q e S' ∧ Hold B X (w0.of P) n S' a' w' ι') a w := by
 delta PW; exact Iff.rfl
theorem ZsY {P : Program} {B X : Nat → Prop} {w0 : W0} {n : Nat} {Q : Exit → St → Prop} {S : St} {id : Nat} (k : Nat) (_hid : Nat.blt id k = true) (own : Nat → Bool) (Zbr : P.follows .mixedOrders = true) {ops : Array Oper} {draw : Bool}
  (h : Zab P own ops.toList ops.toList S [] fun S' fs => Zhm n ops draw fs.reverse = true ∧ Q .normal S') : PW P B X w0 n (.region id ops draw) Q S := Zci own Zbr h
theorem ZcK {P : Program} {B X : Nat → Prop} {w0 : W0} {n : Nat} {c : Code} {Q : Exit → St → Prop} {S : St}
  (h : PW P B X w0 n c (fun e S' => ∃ S'', Ent S' S'' ∧ Q e S'') S) : PW P B X w0 n c Q S := by
 rw [Zt7] at h ⊢;intro a w ι hS;refine wp_mono (h a w ι hS) ?_;rintro e a' w' ⟨S', ι', ⟨S'', he, hq⟩, h2⟩;rw [Zf7] at he;obtain ⟨ι'', h3⟩ := he B X (w0.of P) n a' w' ι' h2;exact ⟨S'', ι'', hq, h3⟩
theorem Zbk {S : St} {L : List (Nat × PV)} {M : List (Nat × Ob)} : ZfI S L M ↔ Ent S ⟨Zbq L, Zan M⟩ := by
 delta ZfI; exact Iff.rfl
theorem Zj4 {S : St} (o sz : Nat) (l : List D) (k : Nat) (h2 : S.objs o = .row sz l) : Ent S ⟨S.env, upd o (.row sz (l.take k)) S.objs⟩ := by
 rw [Zf7];intro B X w0 m a w ι hS;refine ⟨ι, hS.size, hS.defers, hS.frame, hS.hB, hS.hXB, fun x y b fx fy ex ey => ?_, hS.free, hS.env, fun q => ?_, hS.stay⟩
 ·have live : ∀ x, upd o (.row sz (l.take k)) S.objs x ≠ .gone → S.objs x ≠ .gone := by
   intro x hx;by_cases he : x = o
   ·rw [he, h2]; simp
   ·simp only [upd, if_neg he] at hx; exact hx
  exact hS.inj x y b (live x fx) (live y fy) ex ey
 ·by_cases hq : q = o
  ·subst hq;simp only [upd, if_true];have := hS.objs q;rw [h2] at this;cases this with
   | row0 _ h => rw [List.take_nil]; exact .row0 _ h
   | row _ _ b c T hι hb hsz hcl hone h =>
    refine .row _ _ b c T hι hb ?_ (fun d hd => hcl d (List.mem_of_mem_take hd)) hone fun i d j e v hi hj hv => ?_
    ·refine Nat.le_trans (Nat.mul_le_mul_right _ ?_) hsz;rw [List.length_take]; exact Nat.min_le_right _ _
    ·rw [List.getElem?_take] at hi;split at hi
     ·exact h i d j e v hi hj hv
     ·cases hi
  ·simp only [upd, if_neg hq]; exact hS.objs q
theorem PV.At.cap {w : World} {ι : Nat → Option Nat} {X : Nat → Prop} {o sz off len cap cap' : Nat} {v : Value} (h : PV.At w ι X (.ref o sz off len cap) v) (hc : cap' ≤ cap) : PV.At w ι X (.ref o sz off len cap') v := by
 cases h with
 | ref _ _ _ _ _ capr b hι hl hc0 hm hs => exact .ref o sz off len cap' capr b hι hl (Nat.le_trans hc hc0) hm hs
 | ref0 _ _ _ base => rw [Nat.le_zero.1 hc]; exact .ref0 o sz off base
theorem Zj0 {S : St} (q i o sz off len cap cap' : Nat) {cs : List PV} (h1 : S.objs q = .cells cs) (hi : cs[i]? = some (.ref o sz off len cap)) (hcap : cap' ≤ cap) :
  Ent S ⟨S.env, upd q (.cells (cs.set i (.ref o sz off len cap'))) S.objs⟩ := by
 rw [Zf7];intro B X w0 m a w ι hS;refine ⟨ι, hS.size, hS.defers, hS.frame, hS.hB, hS.hXB, fun x y b fx fy ex ey => ?_, hS.free, hS.env, fun p => ?_, hS.stay⟩
 ·have live : ∀ x, upd q (.cells (cs.set i (.ref o sz off len cap'))) S.objs x ≠ .gone → S.objs x ≠ .gone := by
   intro x hx;by_cases he : x = q
   ·rw [he, h1]; simp
   ·simp only [upd, if_neg he] at hx; exact hx
  exact hS.inj x y b (live x fx) (live y fy) ex ey
 ·by_cases hp : p = q
  ·subst hp;simp only [upd, if_true];have := hS.objs p;rw [h1] at this;cases this with
   | cells _ b c T hι hb hsz hone h =>
    refine .cells _ b c T hι hb (by simpa using hsz) hone fun j x v hx hv => ?_
    rw [List.getElem?_set] at hx;split at hx
    ·rename_i hij;subst hij;split at hx
     ·cases hx; exact (h i _ v hi hv).cap hcap
     ·cases hx
    ·exact h j x v hx hv
  ·simp only [upd, if_neg hp]; exact hS.objs p
theorem fmc {α : Type} {p : α → Prop} {a : α} {l : List α} (h : p a ∧ ∀ x, x ∈ l → p x) : ∀ x, x ∈ a :: l → p x := List.forall_mem_cons.2 h
theorem fmn {α : Type} {p : α → Prop} : ∀ x, x ∈ ([] : List α) → p x := List.forall_mem_nil _
section step
variable {P : Program} {B X : Nat → Prop} {w0 : W0} {n : Nat} {c : Code} {Q : Exit → St → Prop} {S : St} {G : Prop}
def ZnM (P : Program) (B X : Nat → Prop) (w0 : W0) (n : Nat) : Code → (Exit → St → Prop) → St → Option Prop
 | .seq x y, Q, S => some (PW P B X w0 n x (Zhu (fun S' => PW P B X w0 n y Q S') Q) S)
 | .skip, Q, S => some (Q .normal S)
 | .exit id, Q, S => some (Q (.exit id) S)
 | .block id c, Q, S => some (PW P B X w0 n c (Zi5 id Q) S)
 | _, _, _ => none
theorem ZaK (h : ZnM P B X w0 n c Q S = some G) (hk : G) : PW P B X w0 n c Q S := by
 unfold ZnM at h;split at h <;> first | (injection h with h; subst h) | cases h
 ·exact Zt4 hk
 ·exact ZzZ hk
 ·exact Zzi hk
 ·exact Zwz hk
end step
theorem Zad {α : Type} {l : List α} {k : Nat} (h : k < l.length) : ∃ x, l[k]? = some x := ⟨_, List.getElem?_eq_getElem h⟩
theorem Zaj {a b : Bool} (h : a = b) : some (D.sc (.bool a)) = some (D.bool b) := by rw [h]
theorem Zah {a b : Int} (h : a = b) : some (D.sc (.int .i64 a)) = some (D.int b) := by rw [h]
theorem ZcI {a b : List D} (h : a = b) : some (D.sl a) = some (D.sl b) := by rw [h]
theorem Zn2 {sz : Nat} {a b : List D} (h : a = b) : Ob.row sz a = Ob.row sz b := by rw [h]

theorem Zbi {ds : List D} {l : List D} (i : Nat) (h : ∃ w X vs, ZgK w X ds vs) (hi : ds[i]? = some (.sl l)) : l.length ≤ 9223372036854775807 := by
 obtain ⟨w, X, vs, h1, h2⟩ := h;have hlt : i < vs.size := by have := (List.getElem?_eq_some_iff.1 hi).1; omega
 have := h2 i _ _ hi (Array.getElem?_eq_getElem hlt);generalize vs[i] = v at this;cases this with
 | slnil => simp
 | sl _ b off cap sz hl hc => simp only [maxLen] at hc; omega
theorem Zb8 {ds cs : List D} {l : List D} (i j : Nat) (h : ∃ w X vs, ZgK w X ds vs) (hi : ds[i]? = some (.ag cs)) (hj : cs[j]? = some (.sl l)) : l.length ≤ 9223372036854775807 := by
 obtain ⟨w, X, vs, h1, h2⟩ := h;have hlt : i < vs.size := by have := (List.getElem?_eq_some_iff.1 hi).1; omega
 have := h2 i _ _ hi (Array.getElem?_eq_getElem hlt);generalize vs[i] = v at this;cases this with
 | ag _ arr hsz hone hat =>
  have hlt : j < arr.size := by have := (List.getElem?_eq_some_iff.1 hj).1; omega
  have := hat j _ _ hj (Array.getElem?_eq_getElem hlt);generalize arr[j] = v at this;cases this with
  | slnil => simp
  | sl _ b off cap sz hl hc => simp only [maxLen] at hc; omega
theorem Zdb {S : St} {t o sz len cap : Nat} {l l' : List D} (h1 : S.env t = .ref o sz 0 len cap) (h2 : S.objs o = .row sz l') (h3 : len ≤ l'.length) (h4 : l'.take len = l) : toD S.objs 4 (S.env t) = some (.sl l) := by
 rw [h1];simp only [toD, h2, Nat.zero_add, true_and, if_pos h3, List.drop_zero, h4]

def Zbp {α : Type} (f : Nat → List α) : Nat → List α
 | 0 => []
 | k + 1 => Zbp f k ++ f k

def ZbN (p : Nat → Bool) : Nat → Option Nat
 | 0 => none
 | k + 1 => match ZbN p k with | some i => some i | none => if p k then some k else none
theorem Zqm {p : Nat → Bool} {n k : Nat} (hk : k < n) (h1 : ZbN p k = none) (h2 : p k = true) : ZbN p n = some k := by
 induction n with
 | zero => omega
 | succ n ih =>
  rcases Nat.lt_succ_iff_lt_or_eq.1 hk with h | rfl
  ·simp [ZbN, ih h]
  ·simp [ZbN, h1, h2]
theorem Zob {p : Nat → Bool} {k : Nat} (h1 : ZbN p k = none) (h2 : p k = false) : ZbN p (k + 1) = none := by simp [ZbN, h1, h2]

def Zdg (e : Nat → Int) : Nat → Int
 | 0 => 0
 | k + 1 => if Zdg e k = 0 then e k else Zdg e k
theorem Zpx {e : Nat → Int} {n k : Nat} {c : Int} (hk : k < n) (h1 : Zdg e k = 0) (h2 : e k = c) (hc : c ≠ 0) : Zdg e n = c := by
 induction n with
 | zero => omega
 | succ n ih =>
  rcases Nat.lt_succ_iff_lt_or_eq.1 hk with h | rfl
  ·simp [Zdg, ih h, hc]
  ·simp [Zdg, h1, h2]
theorem Zn3 {e : Nat → Int} {k : Nat} (h1 : Zdg e k = 0) (h2 : e k = 0) : Zdg e (k + 1) = 0 := by simp [Zdg, h1, h2]
theorem ZdI {α : Type} {q : α → Bool} {l : List α} (h : ∀ (j : Nat) y, j < l.length → l[j]? = some y → q y = false) : l.any q = false := by
 rw [Bool.eq_false_iff];intro hq;obtain ⟨x, hx, hx2⟩ := List.any_eq_true.1 hq;obtain ⟨k, hk⟩ := List.getElem?_of_mem hx;rw [h k x (List.getElem?_eq_some_iff.1 hk).1 hk] at hx2; cases hx2
theorem Zc7 {α : Type} {q : α → Bool} {l : List α} {k : Nat} {x : α} (h : l[k]? = some x) (hq : q x = true) : l.any q = true := List.any_eq_true.2 ⟨x, List.mem_of_getElem? h, hq⟩
theorem Zf5 {α : Type} {l m : List α} {k : Nat} {x y : α} (h1 : l[k]? = some x) (h2 : m[k]? = some y) (h : x ≠ y) : l ≠ m := by
 rintro rfl; rw [h1] at h2; cases h2; exact h rfl
theorem Zel {α : Type} {q : α → Bool} : ∀ {l : List α} {k : Nat} {x : α}, l[k]? = some x → q x = true → (∀ j y, j < k → l[j]? = some y → q y = false) → l.findIdx? q = some k
 | [], k, x, h, _, _ => by simp at h
 | a :: l, 0, x, h, hq, _ => by simp at h; subst h; simp [List.findIdx?_cons, hq]
 | a :: l, k + 1, x, h, hq, hn => by
  have h0 : q a = false := hn 0 a (by omega) rfl;have := Zel (l := l) (k := k) (x := x) (by simpa using h) hq (fun j y hj hy => hn (j + 1) y (by omega) (by simpa using hy));simp [List.findIdx?_cons, h0, this]
theorem ZeX {α : Type} {q : α → Bool} : ∀ {l : List α}, (∀ (j : Nat) y, l[j]? = some y → q y = false) → l.findIdx? q = none
 | [], _ => rfl
 | a :: l, hn => by
  have h0 : q a = false := hn 0 a rfl;have := ZeX (l := l) (fun j y hy => hn (j + 1) y (by simpa using hy));simp [List.findIdx?_cons, h0, this]
def ZcH : Option Nat → Int
 | some i => i
 | none => -1
theorem ZgG {α : Type} (q : α → Bool) (l : List α) : decide (0 ≤ ZcH (l.findIdx? q)) = l.any q := by
 induction l with
 | nil => rfl
 | cons a l ih =>
  rw [List.findIdx?_cons, List.any_cons, ← ih];cases hq : q a with
  | true => simp [ZcH]
  | false =>
   cases hf : l.findIdx? q with
   | none => simp [ZcH]
   | some i => simp only [Bool.false_eq_true, if_false, Option.map_some, ZcH, Bool.false_or]; congr 1; apply propext; omega
theorem ZbL {α : Type} {l : List α} {P : α → Prop} {k : Nat} {x : α} (h : ∀ (j : Nat) y, j < k → l[j]? = some y → P y) (hx : l[k]? = some x) (hp : P x) : ∀ (j : Nat) y, j < k + 1 → l[j]? = some y → P y := by
 intro j y hj hy;rcases Nat.lt_succ_iff_lt_or_eq.1 hj with h1 | h1
 ·exact h j y h1 hy
 ·rw [h1, hx] at hy; cases hy; exact hp
theorem ZaD {α : Type} {l : List α} {k : Nat} {x : α} (h : l[k]? = some x) : l.take (k + 1) = l.take k ++ [x] := by
 rw [List.take_add_one, h]; rfl

theorem Zft (l : List Int) : ∀ d, d ∈ l.map D.int → ∀ c, c ∈ d.cells → c.flat 4 = true := by
 intro d hd c hc;obtain ⟨p, _, rfl⟩ := List.mem_map.1 hd;simp only [D.cells, List.mem_singleton] at hc;subst hc; rfl
theorem Zgy {α : Type} (f : α → D) (n : Nat) (hf : ∀ a, (f a).cells.length = n) (l : List α) : ∀ d, d ∈ l.map f → d.cells.length = n := by
 intro d hd;obtain ⟨p, _, rfl⟩ := List.mem_map.1 hd;exact hf p
theorem ZfC {α : Type} (f : α → D) (hf : ∀ a, ((f a).cells.all (D.flat 4)) = true) (l : List α) : ∀ d, d ∈ l.map f → ∀ c, c ∈ d.cells → c.flat 4 = true := by
 intro d hd c hc;obtain ⟨p, _, rfl⟩ := List.mem_map.1 hd;have := hf p;simp only [List.all_eq_true] at this;exact this c hc
theorem Zat {α β : Type} (f : α → β) (l : List α) : (l.map f).take l.length = l.map f := by
 rw [← List.length_map (f := f)]; exact List.take_length

/-! ### Short forms -/
theorem hcL : (∀ (p : Prop) [Decidable p], (decide p = true) = p) ∧ (∀ (p : Prop) [Decidable p], (decide p = false) = ¬ p) ∧ (∀ b : Bool, ((!b) = true) = (b = false)) ∧ (∀ b : Bool, ((!b) = false) = (b = true)) ∧
  (∀ a b : Bool, ((a && b) = true) = (a = true ∧ b = true)) ∧ (∀ a b : Bool, ((a || b) = true) = (a = true ∨ b = true)) ∧ (false = true) = False ∧ (true = false) = False ∧ (∀ p q : Prop, (¬ (p ∧ q)) = (p → ¬ q)) ∧ (∀ p q : Prop, (¬ (p ∨ q)) = (¬ p ∧ ¬ q)) := by
 refine ⟨?_, ?_, ?_, ?_, ?_, ?_, ?_, ?_, ?_, ?_⟩ <;> simp
theorem inL : (∀ a b : D, (PV.d a = PV.d b) = (a = b)) ∧ (∀ o z f l c o' z' f' l' c' : Nat, (PV.ref o z f l c = PV.ref o' z' f' l' c') = (o = o' ∧ z = z' ∧ f = f' ∧ l = l' ∧ c = c')) ∧ (∀ a b : Value, (D.sc a = D.sc b) = (a = b)) ∧
  (∀ (k k' : IntKind) (a b : Int), (Value.int k a = Value.int k' b) = (k = k' ∧ a = b)) ∧ (∀ a b : Bool, (Value.bool a = Value.bool b) = (a = b)) ∧ (∀ (n m : Nat) (a b : List D), (Ob.row n a = Ob.row m b) = (n = m ∧ a = b)) ∧ (∀ p : Prop, (True ∧ p) = p) ∧ (∀ p : Prop, (p ∧ True) = p) := by
 refine ⟨?_, ?_, ?_, ?_, ?_, ?_, ?_, ?_⟩ <;> simp
section short
variable {P : Program} {own : Nat → Bool} {all rest : List Oper} {S : St} {fs : List Zbd} {K : St → List Zbd → Prop} {dst : Option Nat} {ty : TypeId} {pos : String} {af : Array Edge} {f : Operand} {as : Array Operand} {tys : Array TypeId}
theorem rc {g : FuncId} {ds : List D} {r : D} (hc : Zaa P g ds r) (hf : S.ev f = .d (.fn g [])) (hx : (as.toList.map S.ev).mapM (toD S.objs 4) = some ds)
  (hk : Zab P own all rest (S.put dst (.d r)) (((as.toList.map S.ev).flatMap (PV.refs S.objs 4), []) :: fs) K) (hr : (as.toList.map S.ev).flatMap (PV.refs S.objs 4) = [] ∨ r.flat 4 = true := by first | exact .inl rfl | exact .inr rfl) :
  Zab P own all (⟨dst, .call ⟨.value f, as, tys⟩, ty, pos, af, none⟩ :: rest) S fs K := ZxS hc hf hx hr hk
theorem rcM (σ : List (Nat × Nat)) {h : FuncId} {caps args : List PV} {M M' : List (Nat × Ob)} {r : PV} (hc : Zaf P h args M r M') (hf : ZfK (S.ev f) = some (h, caps))
  (hk : Zab P own all rest (S.app dst ⟨r.ren (gOf σ), Zca (gOf σ) M', (as.toList.map S.ev ++ caps).flatMap (PV.refs S.objs 4)⟩) (((as.toList.map S.ev ++ caps).flatMap (PV.refs S.objs 4), (Zca (gOf σ) M').map (·.1)) :: fs) K)
  (hids : M'.map (·.1) = M.map (·.1) := by rfl) (hao : (args.all (PV.only (M.map (·.1)) 4)) = true := by rfl) (hMo : (M.all fun q => q.2.only (M.map (·.1))) = true := by rfl)
  (hro : r.only (M.map (·.1)) 4 = true := by rfl) (hMo' : (M'.all fun q => q.2.only (M.map (·.1))) = true := by rfl) (hnd : (M.map fun q => gOf σ q.1).Nodup := by exact Zbc rfl)
  (hng : ∀ q ∈ M, q.2 ≠ .gone ∧ (2000 ≤ q.1 → q.2 = .dead) := by (repeat' first | exact List.forall_mem_nil _ | refine List.forall_mem_cons.2 ⟨⟨nofun, fun h => by first | rfl | (simp at h; done)⟩, ?_⟩) <;> fail)
  (hx : Zem S.objs (gOf σ) False (as.toList.map S.ev ++ caps) args := by (repeat' first | exact trivial | refine ⟨.inl rfl, ?_⟩ | refine ⟨.inr ⟨_, rfl, rfl, .inl rfl⟩, ?_⟩) <;> fail)
  (hobs : ∀ q ∈ M, S.objs (gOf σ q.1) = q.2.ren (gOf σ) := by (repeat' first | exact List.forall_mem_nil _ | refine List.forall_mem_cons.2 ⟨rfl, ?_⟩) <;> fail) :
  Zab P own all (⟨dst, .call ⟨.value f, as, tys⟩, ty, pos, af, none⟩ :: rest) S fs K :=
 Zp8 σ hc hf hids hao hMo hro hMo' hnd hng hx hobs hk
theorem eL (σ : List (Nat × Nat)) (L : List (Nat × PV)) (M : List (Nat × Ob)) (h : (∀ p ∈ L, S.env p.1 = p.2.ren (gOf σ)) ∧ ∀ q ∈ M, S.objs (gOf σ q.1) = q.2.ren (gOf σ))
  (h3 : (L.all fun p => p.2.only (M.map (·.1)) 4) = true := by rfl) (h4 : (M.all fun q => q.2.only (M.map (·.1))) = true := by rfl) (h5 : (M.map fun q => gOf σ q.1).Nodup := by exact Zbc rfl)
  (h6 : (M.all fun q => ((decide (q.1 < 1000) || decide (2000 ≤ q.1)) && (decide (gOf σ q.1 < 1000) || decide (2000 ≤ gOf σ q.1))) || decide (gOf σ q.1 = q.1)) = true := by rfl)
  (h7 : ZbU (M.map (·.1)) S.objs := by (repeat' first | exact Zgg _ rfl | exact Zgr | refine ZfE rfl ?_ | refine Zhf ?_)) : ZfI S L M := ZnI σ L M h.1 h.2 h3 h4 h5 h6 h7
theorem eF (σf σ : List (Nat × Nat)) (L : List (Nat × PV)) (Fs : List Fam) (M : List (Nat × Ob))
  (h : (∀ p ∈ L, S.env p.1 = p.2.ren (gOf σ)) ∧ ∀ q ∈ M, S.objs (gOf σ q.1) = q.2.ren (gOf σ))
  (hF : ∀ f ∈ Fs, ∃ r, S.objs (gOf σ f.o) = .cells (ZaV f.n r) ∧ ∀ i, i < f.n → r i = .ref (gOf σf (fid f.j i)) f.sz 0 (f.rows i).length (f.rows i).length ∧ S.objs (gOf σf (fid f.j i)) = .row f.sz (f.rows i))
  (hn : ∀ f ∈ Fs, 1 ≤ f.j ∧ f.o < 1125899906842624 ∧ f.n ≤ 1125899906842624 := by (repeat' first | exact List.forall_mem_nil _ | refine List.forall_mem_cons.2 ⟨⟨Nat.le_of_ble_eq_true rfl, Nat.le_of_ble_eq_true rfl, by dsimp only; omega⟩, ?_⟩); done)
  (c1 : (L.all fun p => p.2.only (Fs.map (·.o) ++ M.map (·.1)) 4) = true := by rfl) (c2 : (M.all fun q => q.2.only (Fs.map (·.o) ++ M.map (·.1))) = true := by rfl)
  (c3 : ((Fs.map (·.o) ++ M.map (·.1)).map (gOf σ) ++ σf.map (·.2)).Nodup := by exact Zbc rfl) (c4 : (Fs.map (·.j)).Nodup := by exact Zbc rfl)
  (c5 : ((Fs.map (·.o) ++ M.map (·.1)).all fun i => (((decide (i < 1000) || decide (2000 ≤ i)) && (decide (gOf σ i < 1000) || decide (2000 ≤ gOf σ i))) || decide (gOf σ i = i)) && decide (i < 1125899906842624) && decide (gOf σ i < 1125899906842624)) = true := by rfl)
  (c6 : (σf.all fun p => (decide (p.2 < 1000) || decide (2000 ≤ p.2)) && decide (p.2 < 1125899906842624)) = true := by rfl)
  (c7 : ZbU (Fs.map (·.o) ++ M.map (·.1)) S.objs := by (repeat' first | refine Zmt rfl rfl ?_ | refine ZkM ?_ | refine ZlH rfl ?_ | refine ZfE rfl ?_ | refine Zhf ?_ | exact Zgg _ rfl | exact Zgr); done) : Zf2 S L Fs M :=
 Zl8 σf σ L Fs M h.1 h.2 hF hn c1 c2 c3 c4 c5 c6 c7
end short
attribute [go_sem] ZdH Zbq Zan Zgj gOf Nat.beq_eq Bool.or_eq_true Nat.zero_add Nat.le_refl Nat.zero_mul Nat.add_zero Zme Zhu Zi5 forall_eq forall_eq_or_imp
section
variable {P : Program} {own : Nat → Bool} {all rest : List Oper} {S : St} {fs : List Zbd} {K : St → List Zbd → Prop} {dst : Option Nat} {ty : TypeId} {pos : String} {af : Array Edge} {f : Operand} {as : Array Operand} {tys : Array TypeId}
end
end Go.PS
