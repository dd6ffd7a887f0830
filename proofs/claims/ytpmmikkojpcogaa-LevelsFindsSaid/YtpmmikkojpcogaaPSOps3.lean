/- Each operation, in the model, does what the symbolic state says: addresses, arithmetic, stores, new objects. -/
import Derived.Test.YtpmmikkojpcogaaPSOps2
namespace Go.PS
open Go

section hold
variable {P : Program} {B X : Nat → Prop} {w0 : W0} {w : World} {n : Nat} {S : St} {a : Act} {ι : Nat → Option Nat} {dst : Option Nat} {ty : TypeId} {pos : String} {af : Array Edge} {gd : Option (Nat × Bool)}

theorem sim_move (hS : Hold B X w0 n S a w ι) {x : Operand} (hd : ∀ t, dst = some t → t < n) (hx : constOk x = true) : Goes P B X w0 n ⟨dst, .move x, ty, pos, af, gd⟩ (S.app dst (.v (S.ev x))) a w := by
  rw [app_v]; exact hS.goes hd rfl (hS.ev hx)
theorem sim_assign (hS : Hold B X w0 n S a w ι) {x : Operand} (hd : ∀ t, dst = some t → t < n) (hx : constOk x = true) : Goes P B X w0 n ⟨dst, .assign x, ty, pos, af, gd⟩ (S.app dst (.v (S.ev x))) a w := by
  rw [app_v]; exact hS.goes hd rfl (hS.ev hx)

theorem sim_pick (hS : Hold B X w0 n S a w ι) {c x y : Operand} (hd : ∀ t, dst = some t → t < n) (h0 : constOk c = true) (hx : constOk x = true) (hy : constOk y = true) (hc : (semPick (S.ev c) (S.ev x) (S.ev y)).1) :
    Goes P B X w0 n ⟨dst, .pick c x y, ty, pos, af, gd⟩ (S.app dst (semPick (S.ev c) (S.ev x) (S.ev y)).2) a w := by
  have hp := hS.ev h0
  have hpx := hS.ev hx
  have hpy := hS.ev hy
  generalize S.ev c = p at hc hp
  unfold semPick at hc ⊢
  split at hc
  · rename_i t
    simp only
    rw [app_v]
    cases hp with
    | d _ _ hp =>
      have e : a.eval c = .bool t := by cases h : a.eval c <;> rw [h] at hp <;> cases hp; rfl
      cases t
      · exact hS.goes hd (by simp [execOp, e, asBool]) hpy
      · exact hS.goes hd (by simp [execOp, e, asBool]) hpx
  · exact hc.elim

theorem sim_field (hS : Hold B X w0 n S a w ι) {T : TypeId} {x : Operand} {f : Nat} (hd : ∀ t, dst = some t → t < n) (hx : constOk x = true)
    (hc : (semField P (tyi P T) f (S.ev x)).1) : Goes P B X w0 n ⟨dst, .fieldAddr T x f, ty, pos, af, gd⟩ (S.app dst (semField P (tyi P T) f (S.ev x)).2) a w := by
  have hp := hS.ev hx
  generalize S.ev x = p at hc hp
  unfold semField at hc ⊢
  cases hf : (tyi P T).fields[f]? with
  | none => rw [hf] at hc; exact hc.elim
  | some q =>
    obtain ⟨off, ft⟩ := q
    rw [hf] at hc
    simp only at hc ⊢
    have run : ∀ (b o : Nat), a.eval x = .pointer (some ⟨b, o, none⟩) → (tyi P T).kind = 3 → P.cellsOf ft ≠ 0 →
        (execOp a.eval ⟨dst, .fieldAddr T x f, ty, pos, af, gd⟩).run P w = .ok (.value (.pointer (some ⟨b, o + off, none⟩))) w := by
      intro b o e hk hne
      obtain ⟨fs, hu⟩ := kind3 hk
      have hff : ∃ fd, fs[f]? = some fd ∧ fd.offset = off ∧ fd.type = ft := by
        simp only [tyi, hu] at hf
        rw [List.getElem?_map, Array.getElem?_toList] at hf
        cases hq : fs[f]? with
        | none => rw [hq] at hf; cases hf
        | some fd => rw [hq] at hf; cases hf; exact ⟨fd, rfl, rfl, rfl⟩
      obtain ⟨fd, hfd, rfl, rfl⟩ := hff
      have hsz := sizeOf_ne (P := P) hne w
      simp only [execOp, Instr.fieldAt, e, Sem.run_bind, run_underlying hu, Result.andThen_ok, hfd, Instr.sureAddr, Sem.run_pure, fieldPlace, hsz, hne, if_false, add_at]
    cases p with
    | d dd =>
      cases dd with
      | pt cs =>
        obtain ⟨hk, hne⟩ := hc
        simp only
        rw [app_v]
        cases hp with
        | d _ _ hp =>
          generalize hva : a.eval x = va at hp
          cases hp with
          | pt cs b o vals hv h =>
            refine hS.goes hd (run b o hva hk hne) (.d _ _ ?_)
            refine .pt _ b (o + off) (fun j => vals (off + j)) (fun j c hj => ?_) (fun j c hj => ?_)
            · rw [List.getElem?_drop] at hj
              have := hv (off + j) c hj
              rw [Nat.add_assoc]; exact this
            · rw [List.getElem?_drop] at hj; exact h (off + j) c hj
      | _ => exact hc.elim
    | ptr o sz i c =>
      obtain ⟨hk, hne⟩ := hc
      simp only
      rw [app_v]
      generalize hva : a.eval x = va at hp
      cases hp with
      | ptr o sz i c b hι =>
        refine hS.goes hd (run b _ hva hk hne) ?_
        rw [Nat.add_assoc]
        exact .ptr o sz i (c + off) b hι
    | _ => exact hc.elim

theorem asInt_run {v : Value} {k : IntKind} {m : Int} (h : v = .int k m) : (asIntOf v).run P w = .ok (k, m) w := by subst h; rfl

theorem d_int {v : Value} {m : Int} (h : PV.At w ι X (.d (.sc (.int .i64 m))) v) : v = .int .i64 m := by
  cases h with
  | d _ _ h => cases h; rfl
theorem d_bool {v : Value} {b : Bool} (h : PV.At w ι X (.d (.sc (.bool b))) v) : v = .bool b := by
  cases h with
  | d _ _ h => cases h; rfl

theorem sim_index (hS : Hold B X w0 n S a w ι) {T : TypeId} {x i : Operand} (hd : ∀ t, dst = some t → t < n) (hx : constOk x = true) (hi : constOk i = true)
    (hc : (semIndex (tyi P T) (P.cellsOf (tyi P T).elem) (S.ev x) (S.ev i)).1) : Goes P B X w0 n ⟨dst, .indexAddr T x i, ty, pos, af, gd⟩ (S.app dst (semIndex (tyi P T) (P.cellsOf (tyi P T).elem) (S.ev x) (S.ev i)).2) a w := by
  have hp := hS.ev hx
  have hq := hS.ev hi
  generalize S.ev x = p at hc hp
  generalize S.ev i = q at hc hq
  unfold semIndex at hc ⊢
  split at hc
  · rename_i l m
    obtain ⟨hk, hne, h0, hlt, hcl⟩ := hc
    simp only
    rw [app_v]
    have hu := kind1 hk
    have ei := d_int hq
    have hsz' := sizeOf_ne (P := P) (u := (tyi P T).elem) hne w
    generalize hva : a.eval x = va at hp
    cases hp with
    | d _ _ hp =>
      have hli : l[m.toNat]? = some l[m.toNat] := List.getElem?_eq_getElem hlt
      simp only [hli, Option.getD_some] at hcl ⊢
      cases hp with
      | slnil => simp at hlt
      | sl l b off cap sz hl hcap hsz vals hv h =>
        have hs : sz = P.cellsOf (tyi P T).elem := by rw [← hcl]; exact (hsz _ (List.getElem_mem hlt)).symm
        refine hS.goes (v := .pointer (some ⟨b, off + m.toNat * sz, none⟩)) hd ?_ (.d _ _ ?_)
        · simp [execOp, Instr.indexAt, hva, ei, asIntOf, run_underlying hu, hsz', h0, hs, add_at]
          omega
        · exact .pt _ b _ (fun j => vals m.toNat j) (fun j c hj => hv m.toNat _ j c hli hj) (fun j c hj => h m.toNat _ j c hli hj)
  · rename_i o sz off len cap m
    obtain ⟨hk, hne, h0, hlt, hs⟩ := hc
    simp only
    rw [app_v]
    have hu := kind1 hk
    have ei := d_int hq
    have hsz' := sizeOf_ne (P := P) (u := (tyi P T).elem) hne w
    generalize hva : a.eval x = va at hp
    cases hp with
    | ref0 => simp at hlt
    | ref o sz off len cap capr b hι hl hcc hm hss =>
      refine hS.goes (v := .pointer (some ⟨b, (off + m.toNat) * sz + 0, none⟩)) hd ?_ (.ptr o sz (off + m.toNat) 0 b hι)
      simp [execOp, Instr.indexAt, hva, ei, asIntOf, run_underlying hu, hsz', h0, hs, add_at, Nat.add_mul]
      omega
  · exact hc.elim

theorem sim_un (hS : Hold B X w0 n S a w ι) {op : UnOp} {T : TypeId} {x : Operand} (hd : ∀ t, dst = some t → t < n) (hx : constOk x = true)
    (hc : (semUn op (S.ev x)).1) : Goes P B X w0 n ⟨dst, .unOp op T x, ty, pos, af, gd⟩ (S.app dst (semUn op (S.ev x)).2) a w := by
  have hp := hS.ev hx
  generalize S.ev x = p at hc hp
  unfold semUn at hc ⊢
  split at hc
  · simp only
    rw [app_v]
    exact hS.goes hd (by simp [execOp, d_bool hp, Op.unary]) (.d _ _ (.sc _ rfl))
  · simp only
    rw [app_v]
    obtain ⟨b, e1⟩ : ∃ b, a.eval x = .bool b := by
      generalize a.eval x = v at hp
      cases hp; exact ⟨_, rfl⟩
    exact hS.goes hd (by simp [execOp, e1, Op.unary]) (.ab (!b))
  · simp only
    rw [app_v]
    exact hS.goes hd (by simp [execOp, d_int hp, Op.unary, Op.intArith]) (.d _ _ (.sc _ rfl))
  · exact hc.elim

theorem sim_nilCheck (hS : Hold B X w0 n S a w ι) {x : Operand} (hd : ∀ t, dst = some t → t < n) (hx : constOk x = true)
    (hc : (semNilCheck (S.ev x)).1) : Goes P B X w0 n ⟨dst, .nilCheck x, ty, pos, af, gd⟩ (S.app dst (semNilCheck (S.ev x)).2) a w := by
  have hp := hS.ev hx
  generalize S.ev x = p at hc hp
  unfold semNilCheck at hc ⊢
  split at hc
  · simp only
    rw [app_v]
    generalize hv : a.eval x = v at hp
    cases hp with
    | d _ _ h =>
      cases h with
      | pt _ b off vals h1 h2 => exact hS.goes hd (v := .pointer (some ⟨b, off, none⟩)) (by simp only [execOp, hv]; rfl) (.d _ _ (.pt _ b off vals h1 h2))
  · simp only
    rw [app_v]
    generalize hv : a.eval x = v at hp
    cases hp with
    | ptr _ _ _ _ b hι => exact hS.goes hd (v := .pointer (some ⟨b, _, none⟩)) (by simp only [execOp, hv]; rfl) (.ptr _ _ _ _ b hι)
  · exact hc.elim

theorem sim_extract (hS : Hold B X w0 n S a w ι) {x : Operand} {i : Nat} (hd : ∀ t, dst = some t → t < n) (hx : constOk x = true)
    (hc : (semExtract (S.ev x) i).1) : Goes P B X w0 n ⟨dst, .extract x i, ty, pos, af, gd⟩ (S.app dst (semExtract (S.ev x) i).2) a w := by
  have hp := hS.ev hx
  generalize S.ev x = p at hc hp
  unfold semExtract at hc ⊢
  split at hc
  · rename_i vs
    cases hi : vs[i]? with
    | none => rw [hi] at hc; exact hc.elim
    | some d =>
      simp only
      rw [app_v]
      generalize hva : a.eval x = va at hp
      cases hp with
      | tup cs arr hsz h =>
        have hlt : i < arr.size := by have := (List.getElem?_eq_some_iff.1 hi).1; omega
        have hai : arr[i]? = some arr[i] := Array.getElem?_eq_getElem hlt
        exact hS.goes hd (by simp [execOp, hva, Instr.extract, hai]) (h i d _ hi hai)
  · rename_i vs
    cases hi : vs[i]? with
    | none => rw [hi] at hc; exact hc.elim
    | some d =>
      simp only
      rw [app_v]
      generalize hva : a.eval x = va at hp
      cases hp with
      | d _ _ hp =>
        cases hp with
        | tup cs arr hsz h =>
          have hlt : i < arr.size := by have := (List.getElem?_eq_some_iff.1 hi).1; omega
          have hai : arr[i]? = some arr[i] := Array.getElem?_eq_getElem hlt
          exact hS.goes hd (by simp [execOp, hva, Instr.extract, hai]) (.d _ _ (h i d _ hi hai))
  · exact hc.elim
end hold
end Go.PS
