/- Slices of slices. -/
import Derived.Test.YtpmmikkojpcogaaPSOps3
namespace Go.PS
open Go

section hold
variable {P : Program} {B X : Nat → Prop} {w0 : W0} {w : World} {n : Nat} {S : St} {a : Act} {ι : Nat → Option Nat} {dst : Option Nat} {ty : TypeId} {pos : String} {af : Array Edge} {gd : Option (Nat × Bool)}

theorem bound_run {v : Value} {m : Int} {y : Nat} {code : BoundsCode} (hv : v = .int .i64 m) (h1 : 0 ≤ m) (h2 : m ≤ y) : (Instr.sliceBound v y code).run P w = .ok m.toNat w := by
  subst hv
  simp [Instr.sliceBound, asIntOf, h1, h2]

/-- The bounds, as the model reckons them. -/
theorem bounds_run {len cap : Nat} {lo hi : Option Operand} {l h : Int} (hS : Hold B X w0 n S a w ι) (hlo : ∀ x, lo = some x → constOk x = true) (hhi : ∀ x, hi = some x → constOk x = true)
    (h1 : bndOf 0 (lo.map S.ev) = some l) (h2 : bndOf len (hi.map S.ev) = some h) (h0 : 0 ≤ l) (hlh : l ≤ h) (hhl : h ≤ len) (hlc : len ≤ cap) :
    (Instr.sliceBounds true len cap (lo.map a.eval) (hi.map a.eval) none).run P w = .ok (l.toNat, h.toNat, cap) w := by
  have e1 : ∀ x, lo = some x → a.eval x = .int .i64 l := by
    rintro x rfl
    have := hS.ev (hlo x rfl)
    simp only [Option.map_some] at h1
    generalize S.ev x = p at h1 this
    unfold bndOf at h1
    split at h1
    · rename_i heq; cases heq
    · rename_i heq; cases heq; cases h1; exact d_int this
    · cases h1
  have e2 : ∀ x, hi = some x → a.eval x = .int .i64 h := by
    rintro x rfl
    have := hS.ev (hhi x rfl)
    simp only [Option.map_some] at h2
    generalize S.ev x = p at h2 this
    unfold bndOf at h2
    split at h2
    · rename_i heq; cases heq
    · rename_i heq; cases heq; cases h2; exact d_int this
    · cases h2
  have rl : ∀ (c : BoundsCode) (x : Operand), lo = some x → (Instr.sliceBound (a.eval x) h.toNat c).run P w = .ok l.toNat w := fun c x hx => bound_run (e1 x hx) h0 (by omega)
  have rh : ∀ (c : BoundsCode) (x : Operand), hi = some x → (Instr.sliceBound (a.eval x) cap c).run P w = .ok h.toNat w := fun c x hx => bound_run (e2 x hx) (by omega) (by omega)
  cases lo with
  | none =>
    simp only [Option.map_none, bndOf, Option.some.injEq] at h1
    cases hi with
    | none =>
      simp only [Option.map_none, bndOf, Option.some.injEq] at h2
      simp [Instr.sliceBounds]
      omega
    | some y => simp [Instr.sliceBounds, rh _ y rfl]; omega
  | some x =>
    cases hi with
    | none =>
      simp only [Option.map_none, bndOf, Option.some.injEq] at h2
      have : h.toNat = len := by omega
      rw [this] at rl
      simp [Instr.sliceBounds, rl _ x rfl]
      omega
    | some y => simp [Instr.sliceBounds, rl _ x rfl, rh _ y rfl]

theorem sim_slice (hS : Hold B X w0 n S a w ι) {T : TypeId} {x : Operand} {lo hi mx : Option Operand} (hd : ∀ t, dst = some t → t < n) (hx : constOk x = true)
    (hlo : ∀ x, lo = some x → constOk x = true) (hhi : ∀ x, hi = some x → constOk x = true) (hmx : ∀ x, mx = some x → constOk x = true)
    (hc : (semSlice (tyi P T) (P.cellsOf (tyi P T).elem) (S.ev x) (lo.map S.ev) (hi.map S.ev) (mx.map S.ev)).1) :
    Goes P B X w0 n ⟨dst, .slice T x lo hi mx, ty, pos, af, gd⟩ (S.app dst (semSlice (tyi P T) (P.cellsOf (tyi P T).elem) (S.ev x) (lo.map S.ev) (hi.map S.ev) (mx.map S.ev)).2) a w := by
  have hp := hS.ev hx
  unfold semSlice at hc ⊢
  split at hc
  case h_2 => exact hc.elim
  rename_i len l hlen hl
  split at hc
  · rename_i h hh hm
    have hmn : mx = none := by cases mx <;> first | rfl | cases hm
    subst hmn
    obtain ⟨hk, hne, h0, hlh, hhl, hok⟩ := hc
    simp only [hlen, hl, hh, Option.map_none]
    rw [app_v]
    have hu := kind1 hk
    have hsz' := sizeOf_ne (P := P) (u := (tyi P T).elem) hne w
    have run : ∀ (base : Option Addr) (cap : Nat), a.eval x = .slice base len cap → len ≤ cap →
        (execOp a.eval ⟨dst, .slice T x lo hi none, ty, pos, af, gd⟩).run P w = .ok (.value (.slice (if cap = l.toNat then base else base.map (·.add (l.toNat * P.cellsOf (tyi P T).elem))) (h.toNat - l.toNat) (cap - l.toNat))) w := by
      intro base cap hv hlc
      have hb := bounds_run (P := P) hS hlo hhi hl hh h0 hlh hhl hlc
      simp [execOp, Instr.sliceAt, Instr.slice, run_underlying hu, hv, hb, hsz']
    generalize hva : a.eval x = va at hp
    generalize S.ev x = p at hp hlen hok
    cases hp with
    | d d0 _ hd0 =>
      cases hd0 with
      | slnil base cap =>
        simp only [lenPV, List.length_nil, Option.some.injEq] at hlen
        subst hlen
        have e1 : l.toNat = 0 := by omega
        have e2 : h.toNat = 0 := by omega
        refine hS.goes hd (run base cap hva (by omega)) ?_
        rw [e1, e2]
        exact .d _ _ (.slnil _ _)
      | sl xs b off cap sz hl' hcap hsz vals hv hat =>
        simp only [lenPV, Option.some.injEq] at hlen
        subst hlen
        refine hS.goes hd (run _ cap hva hl') ?_
        by_cases he : l = h
        · subst he
          simp only [subPV, Nat.sub_self]
          rw [List.drop_eq_nil_of_le (by simp; omega)]
          exact .d _ _ (.slnil _ _)
        · have hcl : cap ≠ l.toNat := by omega
          have hs : sz = P.cellsOf (tyi P T).elem := by
            have h1 : l.toNat < xs.length := by omega
            rw [← hok _ (List.getElem_mem h1)]; exact (hsz _ (List.getElem_mem h1)).symm
          rw [if_neg hcl]
          simp only [subPV, Option.map_some, add_at]
          have hlen2 : ((xs.take h.toNat).drop l.toNat).length = h.toNat - l.toNat := by simp; omega
          have hget : ∀ (i : Nat) d, ((xs.take h.toNat).drop l.toNat)[i]? = some d → xs[l.toNat + i]? = some d := by
            intro i d hi
            rw [List.getElem?_drop, List.getElem?_take] at hi
            split at hi
            · exact hi
            · cases hi
          have := D.At.sl (w := w) (X := ownX ι X) ((xs.take h.toNat).drop l.toNat) b (off + l.toNat * sz) (cap - l.toNat) sz (by rw [hlen2]; omega) (by omega)
            (fun d hd => hsz d (List.mem_of_mem_take (List.mem_of_mem_drop hd))) (fun i j => vals (l.toNat + i) j)
            (fun i d j c hi hj => by
              have := hv (l.toNat + i) d j c (hget i d hi) hj
              rw [show off + l.toNat * sz + i * sz + j = off + (l.toNat + i) * sz + j by rw [Nat.add_mul]; omega]
              exact this)
            (fun i d j c hi hj => hat (l.toNat + i) d j c (hget i d hi) hj)
          rw [hlen2] at this
          rw [← hs]
          exact .d _ _ this
      | _ => simp [lenPV] at hlen
    | ref o sz off len' cap capr b hι hl' hcc hm hss =>
      simp only [lenPV, Option.some.injEq] at hlen
      subst hlen
      simp only [subOk] at hok
      refine hS.goes hd (run _ capr hva hl') ?_
      simp only [subPV]
      by_cases he : capr = l.toNat
      · rw [if_pos he]
        have e1 : h.toNat - l.toNat = 0 := by omega
        have e2 : cap - l.toNat = 0 := by omega
        have e3 : capr - l.toNat = 0 := by omega
        rw [e1, e2, e3]
        exact .ref0 _ _ _ _
      · rw [if_neg he]
        simp only [Option.map_some, add_at]
        have := PV.At.ref (w := w) (X := X) o sz (off + l.toNat) (h.toNat - l.toNat) (cap - l.toNat) (capr - l.toNat) b hι (by omega) (by omega) (by omega)
          (by rw [← hss]; congr 1; omega)
        rw [Nat.add_mul] at this
        rw [← hok]; exact this
    | ref0 o sz off base =>
      simp only [lenPV, Option.some.injEq] at hlen
      subst hlen
      have e1 : l.toNat = 0 := by omega
      have e2 : h.toNat = 0 := by omega
      refine hS.goes hd (run base 0 hva (by omega)) ?_
      rw [e1, e2, if_pos rfl]
      exact .ref0 _ _ _ _
    | nilS =>
      simp only [lenPV, Option.some.injEq] at hlen
      subst hlen
      have e1 : l.toNat = 0 := by omega
      have e2 : h.toNat = 0 := by omega
      refine hS.goes hd (run none 0 hva (by omega)) ?_
      rw [e1, e2, if_pos rfl]
      exact .nilS
    | z0 base =>
      simp only [lenPV, Option.some.injEq] at hlen
      subst hlen
      have e1 : l.toNat = 0 := by omega
      have e2 : h.toNat = 0 := by omega
      refine hS.goes hd (run base 0 hva (by omega)) ?_
      rw [e1, e2, if_pos rfl]
      exact .z0 _
    | _ => simp [lenPV] at hlen
  · rename_i h m hh hm
    obtain ⟨hk, hne, hhs, rfl, rfl, rfl⟩ := hc
    simp only [hlen, hl, hh, hm]
    rw [app_v]
    have hu := kind1 hk
    have hsz' := sizeOf_ne (P := P) (u := (tyi P T).elem) hne w
    cases mx with
    | none => cases hm
    | some z =>
      cases hi with
      | none => simp at hhs
      | some y =>
        simp only [Option.map_some, Option.some.injEq] at hm hh
        have ez : a.eval z = .int .i64 0 := by
          have := hS.ev (hmx z rfl); rw [hm] at this; exact d_int this
        have ey : a.eval y = .int .i64 0 := by
          have := hS.ev (hhi y rfl)
          generalize S.ev y = p at hh this
          unfold bndOf at hh
          split at hh
          · rename_i heq; cases heq
          · rename_i heq; cases heq; cases hh; exact d_int this
          · cases hh
        have el : ∀ x, lo = some x → a.eval x = .int .i64 0 := by
          rintro x rfl
          have := hS.ev (hlo x rfl)
          simp only [Option.map_some] at hl
          generalize S.ev x = p at hl this
          unfold bndOf at hl
          split at hl
          · rename_i heq; cases heq
          · rename_i heq; cases heq; cases hl; exact d_int this
          · cases hl
        have hsl : ∃ base len' cap, a.eval x = .slice base len' cap := by
          generalize a.eval x = va at hp
          generalize S.ev x = p at hp hlen
          cases hp with
          | d _ _ h => cases h <;> first | exact ⟨_, _, _, rfl⟩ | simp [lenPV] at hlen
          | ref => exact ⟨_, _, _, rfl⟩
          | ref0 => exact ⟨_, _, _, rfl⟩
          | nilS => exact ⟨_, _, _, rfl⟩
          | z0 => exact ⟨_, _, _, rfl⟩
          | _ => simp [lenPV] at hlen
        obtain ⟨base, len', cap, hv⟩ := hsl
        have b0 : ∀ (y : Nat) (c : BoundsCode), (Instr.sliceBound (.int .i64 0) y c).run P w = .ok 0 w := fun y c => bound_run (m := 0) rfl (by omega) (by omega)
        refine hS.goes (v := .slice base 0 0) hd ?_ (.z0 base)
        cases lo with
        | none => simp [execOp, Instr.sliceAt, Instr.slice, Instr.sliceBounds, run_underlying hu, hv, ez, ey, b0, hsz']
        | some x' => simp [execOp, Instr.sliceAt, Instr.slice, Instr.sliceBounds, run_underlying hu, hv, ez, ey, b0, hsz', el x' rfl]
  · exact hc.elim
end hold
end Go.PS
