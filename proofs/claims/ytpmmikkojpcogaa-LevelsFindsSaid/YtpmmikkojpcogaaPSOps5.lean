/- New objects and stores. -/
import Derived.Test.YtpmmikkojpcogaaPSOps4
namespace Go.PS
open Go

section hold
variable {P : Program} {B X : Nat → Prop} {w0 : W0} {w : World} {n : Nat} {S : St} {a : Act} {ι : Nat → Option Nat} {dst : Option Nat} {ty : TypeId} {pos : String} {af : Array Edge} {gd : Option (Nat × Bool)}

theorem Hold.dead (h : Hold B X w0 n S a w ι) {t : Nat} (hd : S.objs t = .dead) : ι t = none := by
  have := h.objs t
  rw [hd] at this
  cases this; assumption

/-- A new block becomes a new object. -/
theorem Hold.alloc (h : Hold B X w0 n S a w ι) {t : Nat} (hd : S.objs t = .dead) (w' : World) (hos : w'.os = w.os) (htape : w'.tape = w.tape) (hout : w'.output = w.output)
    (hsize : w'.heap.size = w.heap.size + 1) (hold : ∀ b, b < w.heap.size → w'.heap[b]? = w.heap[b]?) (ob : Ob)
    (hob : Ob.At w' (upd t (some w.heap.size) ι) X t ob) :
    Hold B X w0 n { env := S.env, objs := upd t ob S.objs } a w' (upd t (some w.heap.size) ι) :=
  h.change none t ob (upd t (some w.heap.size) ι) w' hos htape hout (by omega) (fun o' hne => if_neg hne) (fun b hb => by rw [h.dead hd] at hb; cases hb) (fun b hb => by cases hb) (fun b hb _ => hold b hb)
    (fun b hb => by rw [upd, if_pos rfl] at hb; cases hb; exact ⟨.inr (.inl (Nat.le_refl _)), by omega⟩) hob

/-- A relation in the old state carries over to a state with one more block. -/
theorem PV.At.alloc (h : Hold B X w0 n S a w ι) {t : Nat} (hd : S.objs t = .dead) {w' : World}
    (hold : ∀ b, b < w.heap.size → w'.heap[b]? = w.heap[b]?) {p : PV} {v : Value} (hp : PV.At w ι X p v) : PV.At w' (upd t (some w.heap.size) ι) X p v := by
  have hn := h.dead hd
  refine hp.move (fun o b hb => ?_) (fun b hb => ?_) (fun b hb _ => hold b hb)
  · have hne : o ≠ t := fun he => by rw [he, hn] at hb; cases hb
    exact ⟨by rw [upd, if_neg hne]; exact hb, by simp only [bsz, hold b (h.free o b hb).2]⟩
  · rcases hb with hb | ⟨o, hb⟩
    · exact .inl (.inl hb)
    · by_cases he : o = t
      · subst he; rw [upd, if_pos rfl] at hb; cases hb; exact .inr (Nat.le_refl _)
      · rw [upd, if_neg he] at hb; exact .inl (.inr ⟨o, hb⟩)

theorem D.At.alloc (h : Hold B X w0 n S a w ι) {t : Nat} (hd : S.objs t = .dead) {w' : World}
    (hold : ∀ b, b < w.heap.size → w'.heap[b]? = w.heap[b]?) {p : D} {v : Value} (hp : D.At w (ownX ι X) p v) : D.At w' (ownX (upd t (some w.heap.size) ι) X) p v := by
  have := PV.At.alloc h hd hold (.d _ _ hp)
  cases this; assumption

/-- A cell object in a new block. -/
theorem goes_new (hS : Hold B X w0 n S a w ι) {t : Nat} {o : Oper} (hdst : o.dst = some t) (ht : t < n) (hd : S.objs t = .dead) (cs : List PV) (arr : Array Value) (T : TypeId)
    (hr : (execOp a.eval o).run P w = .ok (.value (.pointer (some ⟨w.heap.size, 0, none⟩))) (w.alloc (.cells arr T)))
    (hsz : arr.size = cs.length) (hone : ∀ (j : Nat) (v : Value), arr[j]? = some v → v.oneCell' = true) (hat : ∀ (j : Nat) p v, cs[j]? = some p → arr[j]? = some v → PV.At w ι X p v) :
    Goes P B X w0 n o (S.app o.dst { val := .ptr t 0 0 0, wr := [(t, .cells cs)] }) a w := by
  have hold : ∀ b, b < w.heap.size → (w.alloc (.cells arr T)).heap[b]? = w.heap[b]? := fun b hb => heap_alloc_old w _ hb
  have hob : Ob.At (w.alloc (.cells arr T)) (upd t (some w.heap.size) ι) X t (.cells cs) :=
    .cells cs w.heap.size arr T (if_pos rfl) (heap_alloc_new w _) hsz hone fun j p v hj hv => (hat j p v hj hv).alloc hS hd hold
  have h1 := hS.alloc hd (w.alloc (.cells arr T)) rfl rfl rfl (by simp) hold _ hob
  refine ⟨_, _, upd t (some w.heap.size) ι, .inl hr, ?_⟩
  have h2 := h1.put (dst := o.dst) (x := .ptr t 0 0 0) (v := .pointer (some ⟨w.heap.size, 0 * 0 + 0, none⟩)) (fun u hu => by rw [hdst] at hu; cases hu; exact ht)
    (.ptr t 0 0 0 w.heap.size (if_pos rfl))
  rw [hdst] at h2 ⊢
  exact h2

theorem sim_alloc (hS : Hold B X w0 n S a w ι) {T : TypeId} (hd : ∀ t, dst = some t → t < n) (hc : (semAlloc (tyi P T) S.objs dst).1) :
    Goes P B X w0 n ⟨dst, .alloc T, ty, pos, af, gd⟩ (S.app dst (semAlloc (tyi P T) S.objs dst).2) a w := by
  unfold semAlloc at hc ⊢
  cases dst with
  | none => exact hc.elim
  | some t =>
    obtain ⟨hz, hdead⟩ := hc
    obtain ⟨i, z, hi, hiz, hzs, hz1, hne, hzz⟩ := zok_zero hz
    refine goes_new (P := P) (o := ⟨some t, .alloc T, ty, pos, af, gd⟩) hS rfl (hd t rfl) hdead _ z.cells T ?_ (by simp [hzz]) (fun j v hj => ?_) (fun j p v hj hv => ?_)
    · simp [execOp, Instr.alloc, zeroValue, typeInfo, hi, hiz, newVar, newRow]
    · exact hz1 v (by simpa using Array.mem_of_getElem? hj)
    · rw [hzz, List.getElem?_map, Array.getElem?_toList, hv] at hj
      cases hj
      exact cellPV_at (hz1 v (by simpa using Array.mem_of_getElem? hv))

theorem sim_box (hS : Hold B X w0 n S a w ι) {T : TypeId} {x : Operand} (hd : ∀ t, dst = some t → t < n) (hx : constOk x = true) (hc : (semBox S.objs dst (S.ev x).cells?).1) :
    Goes P B X w0 n ⟨dst, .box T x, ty, pos, af, gd⟩ (S.app dst (semBox S.objs dst (S.ev x).cells?).2) a w := by
  have hp := hS.ev hx
  unfold semBox at hc ⊢
  cases dst with
  | none => exact hc.elim
  | some t =>
    cases hcs : (S.ev x).cells? with
    | none => rw [hcs] at hc; exact hc.elim
    | some cs =>
      rw [hcs] at hc
      obtain ⟨h1, h2, h3⟩ := hp.cells hcs
      exact goes_new (P := P) (o := ⟨some t, .box T x, ty, pos, af, gd⟩) hS rfl (hd t rfl) hc _ (a.eval x).cells T (by simp [execOp, Instr.box, newVar, newRow]) h1 h2 h3

theorem getElem?_splice {α : Type} (cs : List α) (c : Nat) (xs : List α) (h : c + xs.length ≤ cs.length) (j : Nat) :
    (splice cs c xs)[j]? = if j < c then cs[j]? else if j < c + xs.length then xs[j - c]? else cs[j]? := by
  unfold splice
  rw [List.append_assoc, List.getElem?_append]
  simp only [List.length_take, Nat.min_eq_left (show c ≤ cs.length by omega)]
  split
  · rw [List.getElem?_take_of_lt (by assumption)]
  · rw [List.getElem?_append]
    split
    · rw [if_pos (by omega)]
    · rw [if_neg (by omega), List.getElem?_drop]
      congr 1; omega

theorem setRow_size (w : World) (g : Nat) (cs : Array Value) : (w.setRow g cs).heap.size = w.heap.size := by simp [World.setRow]

/-- What a store leaves in the array. -/
theorem arr_splice (arr : Array Value) (p : Nat) (vs : List Value) (h : p + vs.length ≤ arr.size) (j : Nat) :
    ((arr.toList.take p ++ vs ++ arr.toList.drop (p + vs.length)).toArray)[j]? = if j < p then arr[j]? else if j < p + vs.length then vs[j - p]? else arr[j]? := by
  have := getElem?_splice arr.toList p vs (by simpa using h) j
  simp only [splice] at this
  rw [List.getElem?_toArray, this]
  simp only [Array.getElem?_toList]

theorem size_splice (arr : Array Value) (p : Nat) (vs : List Value) (h : p + vs.length ≤ arr.size) : ((arr.toList.take p ++ vs ++ arr.toList.drop (p + vs.length)).toArray).size = arr.size := by
  simp; omega

/-- A store into a block of an object of the state's own. -/
theorem goes_store (hS : Hold B X w0 n S a w ι) {o : Oper} (hdst : o.dst = none) {q b : Nat} {arr : Array Value} {T : TypeId} (hlive : S.objs q ≠ .gone) (hι : ι q = some b) (hb : w.heap[b]? = some (.cells arr T (0, 0)))
    (p : Nat) (vs : List Value) (hlen : p + vs.length ≤ arr.size) (ob : Ob)
    (hr : (execOp a.eval o).run P w = .ok .skip (w.setRow b (arr.toList.take p ++ vs ++ arr.toList.drop (p + vs.length)).toArray))
    (hob : Ob.At (w.setRow b (arr.toList.take p ++ vs ++ arr.toList.drop (p + vs.length)).toArray) ι X q ob) :
    Goes P B X w0 n o (S.app o.dst { val := .unk, wr := [(q, ob)] }) a w := by
  have h1 := hS.change (some b) q ob ι (w.setRow b (arr.toList.take p ++ vs ++ arr.toList.drop (p + vs.length)).toArray) rfl rfl rfl (by simp) (fun _ _ => rfl) (fun _ h => h)
    (fun b' hb' => by
      cases hb'
      exact ⟨⟨q, hι⟩, fun o' hne hg ho' => hne (hS.inj o' q b hg hlive ho' hι), by simp only [bsz, hb, setRow_heap w b arr _ T (0, 0) hb, size_splice arr p vs hlen]⟩)
    (fun b' _ hne => setRow_other w b b' _ (fun he => hne (by rw [he])))
    (fun b' hb' => ⟨.inl ⟨hb', hlive⟩, by rw [setRow_size]; exact (hS.free q b' hb').2⟩) hob
  refine ⟨undef, _, ι, .inr ⟨hr, rfl⟩, ?_⟩
  rw [hdst]
  exact h1

theorem PV.At.store (_hS : Hold B X w0 n S a w ι) {q b : Nat} {arr arr' : Array Value} {T : TypeId} (hι : ι q = some b) (hb : w.heap[b]? = some (.cells arr T (0, 0))) (hsz : arr'.size = arr.size)
    {p : PV} {v : Value} (hp : PV.At w ι X p v) : PV.At (w.setRow b arr') ι X p v := by
  refine hp.move (fun o b' hb' => ⟨hb', ?_⟩) (fun b' hb' => .inl hb') (fun b' hlt hne => setRow_other w b b' _ (fun he => hne (.inr ⟨q, he ▸ hι⟩)))
  by_cases he : b' = b
  · subst he; simp only [bsz, hb, setRow_heap w b' arr _ T (0, 0) hb, hsz]
  · simp only [bsz, setRow_other w b b' _ he]

theorem D.At.store (hS : Hold B X w0 n S a w ι) {q b : Nat} {arr arr' : Array Value} {T : TypeId} (hι : ι q = some b) (hb : w.heap[b]? = some (.cells arr T (0, 0))) (hsz : arr'.size = arr.size)
    {p : D} {v : Value} (hp : D.At w (ownX ι X) p v) : D.At (w.setRow b arr') (ownX ι X) p v := by
  have := PV.At.store hS hι hb hsz (.d _ _ hp)
  cases this; assumption

theorem mapM_asD {vs : List PV} {ds : List D} (h : vs.mapM PV.asD = some ds) : ds.length = vs.length ∧ ∀ (j : Nat) d, ds[j]? = some d → ∃ p, vs[j]? = some p ∧ p.asD = some d := by
  induction vs generalizing ds with
  | nil => simp at h; subst h; simp
  | cons p vs ih =>
    simp only [List.mapM_cons] at h
    cases hp : p.asD with
    | none => rw [hp] at h; cases h
    | some d =>
      rw [hp] at h
      cases hr : vs.mapM PV.asD with
      | none => rw [hr] at h; cases h
      | some r =>
        rw [hr] at h; cases h
        obtain ⟨h1, h2⟩ := ih hr
        refine ⟨by simp [h1], fun j e he => ?_⟩
        cases j with
        | zero => simp at he; subst he; exact ⟨p, rfl, hp⟩
        | succ j => simp at he; obtain ⟨q, hq, hqe⟩ := h2 j e he; exact ⟨q, by simpa using hq, hqe⟩

theorem PV.At.asD {p : PV} {v : Value} {d : D} (h : PV.At w ι X p v) (hd : p.asD = some d) : D.At w (ownX ι X) d v := by
  cases h with
  | d x v h => cases hd; exact h
  | nilS => cases hd; exact .slnil none 0
  | z0 base => cases hd; exact .slnil base 0
  | _ => cases hd

theorem mkD_cells {x : D} {cs : List D} (hl : cs.length = x.cells.length) (h1 : ∀ d, cs = [d] → d.cells = [d]) : (mkD x cs).cells = cs := by
  unfold mkD
  split
  · rfl
  · rename_i hx
    have : cs.length = 1 := by rw [hl]; cases x <;> first | rfl | exact absurd rfl (hx _)
    match cs, this with
    | [d], _ => exact h1 d rfl

theorem sim_store (hS : Hold B X w0 n S a w ι) {T : TypeId} {x y : Operand} (hdn : dst = none) (hx : constOk x = true) (hy : constOk y = true)
    (hc : (semStore (tyi P T) S.objs (S.ev x) (S.ev y).cells?).1) : Goes P B X w0 n ⟨dst, .store T x y, ty, pos, af, gd⟩ (S.app dst (semStore (tyi P T) S.objs (S.ev x) (S.ev y).cells?).2) a w := by
  have hp := hS.ev hx
  have hq := hS.ev hy
  generalize S.ev x = p at hc hp
  unfold semStore at hc ⊢
  split at hc
  · rename_i o sz i c vs hcs
    obtain ⟨hvl, hok, hc⟩ := hc
    simp only
    obtain ⟨q1, q2, q3⟩ := hq.cells hcs
    generalize hva : a.eval x = va at hp
    cases hp with
    | ptr o sz i c b hι =>
      have hob := hS.objs o
      generalize hgo : S.objs o = ob at hob hc
      have hone' : ∀ v ∈ (a.eval y).cells.toList, v.oneCell' = true := fun v hv => by
        obtain ⟨j, hj⟩ := List.getElem?_of_mem hv
        exact q2 j v (by simpa using hj)
      have hlen : (a.eval y).cells.toList.length = vs.length := by simpa using q1
      have run : ∀ (arr : Array Value) (T' : TypeId), w.heap[b]? = some (.cells arr T' (0, 0)) → i * sz + c + vs.length ≤ arr.size →
          (execOp a.eval ⟨dst, .store T x y, ty, pos, af, gd⟩).run P w = .ok .skip (w.setRow b (arr.toList.take (i * sz + c) ++ (a.eval y).cells.toList ++ arr.toList.drop (i * sz + c + (a.eval y).cells.toList.length)).toArray) := by
        intro arr T' hb hl
        have hst := run_storeCells_at P b (i * sz + c) T' (a.eval y).cells.toList 0 arr w hb (by rw [hlen]; omega) hone'
        have hcs' : (a.eval y).cells.size = P.cellsOf T := by simp [tyi] at hvl; omega
        simp only [execOp, Instr.storeAt, hva, Instr.sureAddr, Sem.run_bind, Sem.run_pure, Result.andThen_ok, storeVar, run_sizeOf' hok, hcs', ne_eq, not_true_eq_false, if_false, hst, Nat.add_zero]
      cases hob with
      | dead h => exact hc.elim
      | gone => exact hc.elim
      | row0 sz' h => rw [h] at hι; cases hι
      | cells cs b' arr T' hι' hb hsz hone h =>
        rw [hι] at hι'; cases hι'
        simp only [stOb] at hc ⊢
        have run := run arr T' hb
        generalize i * sz + c = r at hc run ⊢
        have hl := hc
        have hl' : r + vs.length ≤ arr.size := by omega
        have hls : r + (a.eval y).cells.toList.length ≤ arr.size := by rw [hlen]; exact hl'
        refine goes_store (P := P) (o := ⟨dst, .store T x y, ty, pos, af, gd⟩) hS hdn (by rw [hgo]; simp) hι hb r (a.eval y).cells.toList hls _ (run hl') ?_
        refine .cells _ b _ T' hι (setRow_heap w b arr _ T' (0, 0) hb) ?_ (fun j v hj => ?_) (fun j p v hj hv => ?_)
        · rw [size_splice _ _ _ hls, hsz]; simp [splice]; omega
        · rw [arr_splice _ _ _ hls] at hj
          split at hj
          · exact hone j v hj
          · split at hj
            · exact hone' v (List.mem_of_getElem? hj)
            · exact hone j v hj
        · refine PV.At.store hS hι hb (size_splice _ _ _ hls) ?_
          rw [getElem?_splice cs r vs hl] at hj
          rw [arr_splice _ _ _ hls] at hv
          simp only [hlen] at hv
          split at hj
          · rename_i hlt; rw [if_pos hlt] at hv; exact h j p v hj hv
          · rename_i hlt; rw [if_neg hlt] at hv
            split at hj
            · rename_i hlt2; rw [if_pos hlt2] at hv
              exact q3 (j - r) p v hj (by simpa using hv)
            · rename_i hlt2; rw [if_neg hlt2] at hv; exact h j p v hj hv
      | row sz' l b' arr T' hι' hb hsz hcl hone h =>
        rw [hι] at hι'; cases hι'
        simp only [stOb] at hc ⊢
        cases hds : vs.mapM PV.asD with
        | none => rw [hds] at hc; exact hc.elim
        | some ds =>
          rw [hds] at hc
          obtain ⟨rfl, hi, hl⟩ := hc
          have hli : l[i]? = some l[i] := List.getElem?_eq_getElem hi
          simp only [hli, Option.getD_some] at hl ⊢
          obtain ⟨hdl, hda⟩ := mapM_asD hds
          have hcs : l[i].cells.length = sz := hcl _ (List.getElem_mem hi)
          have hroom : i * sz + sz ≤ arr.size := by
            have : (i + 1) * sz ≤ l.length * sz := Nat.mul_le_mul_right _ hi
            rw [Nat.add_mul] at this; omega
          have hl' : i * sz + c + vs.length ≤ arr.size := by omega
          have hls : i * sz + c + (a.eval y).cells.toList.length ≤ arr.size := by rw [hlen]; exact hl'
          have hat : ∀ (j : Nat) d v, ds[j]? = some d → (a.eval y).cells[j]? = some v → D.At w (ownX ι X) d v := fun j d v hj hv => by
            obtain ⟨p, hp, hpd⟩ := hda j d hj
            exact (q3 j p v hp hv).asD hpd
          have hmk : (mkD l[i] (splice l[i].cells c ds)).cells = splice l[i].cells c ds := by
            refine mkD_cells (by simp [splice]; omega) (fun d hd => ?_)
            by_cases hz : ds.length = 0
            · -- nothing stored
              have h0 : l[i].cells = [d] := by
                rw [← hd]; unfold splice
                have : ds = [] := List.eq_nil_of_length_eq_zero hz
                subst this
                simp
              have hdi : l[i].cells[0]? = some d := by rw [h0]; rfl
              have hs1 : sz = 1 := by rw [← hcs, h0]; rfl
              have hlt : i * sz + 0 < arr.size := by omega
              exact (h i _ 0 d _ hli hdi (Array.getElem?_eq_getElem hlt)).single (hone _ _ (Array.getElem?_eq_getElem hlt))
            · have hlen1 : (splice l[i].cells c ds).length = 1 := by rw [hd]; rfl
              have hs1 : l[i].cells.length = 1 := by simp [splice] at hlen1; omega
              have hc0 : c = 0 := by omega
              have hd1 : ds.length = 1 := by omega
              subst hc0
              have : ds = [d] := by
                rw [← hd]; unfold splice
                have : l[i].cells.drop (0 + ds.length) = [] := List.drop_eq_nil_of_le (by omega)
                rw [this]; simp
              have hv0 : (a.eval y).cells[0]? = some ((a.eval y).cells[0]'(by omega)) := Array.getElem?_eq_getElem _
              exact (hat 0 d _ (by rw [this]; rfl) hv0).single (q2 0 _ hv0)
          refine goes_store (P := P) (o := ⟨dst, .store T x y, ty, pos, af, gd⟩) hS hdn (by rw [hgo]; simp) hι hb (i * sz + c) (a.eval y).cells.toList hls _ (run arr T' hb hl') ?_
          refine .row sz _ b _ T' hι (setRow_heap w b arr _ T' (0, 0) hb) ?_ (fun d hd => ?_) (fun j v hj => ?_) (fun i' d j e v hi' hj hv => ?_)
          · rw [size_splice _ _ _ hls]; simpa using hsz
          · rcases List.mem_or_eq_of_mem_set hd with hd | rfl
            · exact hcl d hd
            · rw [hmk]; simp [splice]; omega
          · rw [arr_splice _ _ _ hls] at hj
            split at hj
            · exact hone j v hj
            · split at hj
              · exact hone' v (List.mem_of_getElem? hj)
              · exact hone j v hj
          · refine D.At.store hS hι hb (size_splice _ _ _ hls) ?_
            rw [arr_splice _ _ _ hls] at hv
            rw [hlen] at hv
            by_cases hii : i' = i
            · subst hii
              rw [List.getElem?_set_self hi] at hi'
              cases hi'
              rw [hmk, getElem?_splice _ c ds hl] at hj
              split at hj
              · rw [if_pos (by omega)] at hv; exact h i' _ j e v hli hj hv
              · rw [if_neg (by omega)] at hv
                split at hj
                · rw [if_pos (by omega)] at hv
                  exact hat (j - c) e v hj (by rw [← Array.getElem?_toList]; rw [show i' * sz + j - (i' * sz + c) = j - c by omega] at hv; exact hv)
                · rw [if_neg (by omega)] at hv; exact h i' _ j e v hli hj hv
            · rw [List.getElem?_set_ne (Ne.symm hii)] at hi'
              have hjs : j < sz := by
                have := (List.getElem?_eq_some_iff.1 hj).1
                rw [hcl d (List.mem_of_getElem? hi')] at this; exact this
              have hout : i' * sz + j < i * sz + c ∨ i * sz + c + vs.length ≤ i' * sz + j := by
                rcases Nat.lt_or_gt_of_ne hii with hlt | hgt
                · left
                  have : (i' + 1) * sz ≤ i * sz := Nat.mul_le_mul_right _ hlt
                  rw [Nat.add_mul] at this; omega
                · right
                  have : (i + 1) * sz ≤ i' * sz := Nat.mul_le_mul_right _ hgt
                  rw [Nat.add_mul] at this; omega
              rcases hout with ho | ho
              · rw [if_pos ho] at hv; exact h i' d j e v hi' hj hv
              · rw [if_neg (by omega), if_neg (by omega)] at hv; exact h i' d j e v hi' hj hv
  · exact hc.elim
end hold
end Go.PS
