/- append. -/
import Derived.Test.YtpmmikkojpcogaaPSOps8
namespace Go.PS
open Go

section hold
variable {P : Program} {B X : Nat → Prop} {w0 : W0} {w : World} {n : Nat} {S : St} {a : Act} {ι : Nat → Option Nat} {dst : Option Nat} {ty : TypeId} {pos : String} {af : Array Edge} {gd : Option (Nat × Bool)}

theorem slice_not_int {u : TypeId} {e : TypeId} (hu : P.underlying u = some (.slice e)) : (match P.underlying u with | some (.int _) => true | _ => false) = false := by rw [hu]

/-- append within the capacity. -/
theorem run_append_in {t u ty' e e' : TypeId} {ie : TypeInfo} (ht : P.underlying t = some (.slice e)) (hu : P.underlying u = some (.slice e')) (hi : P.info? e = some ie)
    {g len cap m : Nat} {cur : Array Value} {T : TypeId} (hg : w.heap[g]? = some (.cells cur T (0, 0))) {x : Value} {news : List Value}
    (hx : ∃ b c, x = .slice b m c) (hf : (Builtin.firstCells ie.size m x).run P w = .ok news.toArray w) (_hnl : news.length = m * ie.size) (h1 : ∀ v ∈ news, v.oneCell' = true)
    (hroom : len + m ≤ cap) (hfit : len * ie.size + news.length ≤ cur.size) :
    (Builtin.append_ #[t, u] ty' #[.slice (some ⟨g, 0, none⟩) len cap, x]).run P w =
      .ok (.slice (some ⟨g, 0, none⟩) (len + m) cap) (w.setRow g (cur.toList.take (len * ie.size) ++ news ++ cur.toList.drop (len * ie.size + news.length)).toArray) := by
  obtain ⟨b, c, rfl⟩ := hx
  have hst := run_storeCells_at P g (len * ie.size) T news 0 cur w hg (by omega) h1
  simp only [Nat.add_zero] at hst
  simp [Builtin.append_, run_underlying ht, run_underlying hu, sizeOf, typeInfo, hi, Builtin.lenOf, hroom, hf, add_at, hst]

/-- append that makes a new array. -/
theorem run_append_new {t u ty' e e' : TypeId} {ie : TypeInfo} {z : Value} (ht : P.underlying t = some (.slice e)) (hu : P.underlying u = some (.slice e')) (hi : P.info? e = some ie) (hz : ie.zero = some z)
    {base : Option Addr} {len cap m : Nat} {x : Value} {olds news : List Value}
    (hx : ∃ b c, x = .slice b m c) (ho : (Builtin.firstCells ie.size len (.slice base len cap)).run P w.drew = .ok olds.toArray w.drew) (hf : (Builtin.firstCells ie.size m x).run P w.drew = .ok news.toArray w.drew)
    (hgr : cap < len + m) (hsm : len + m ≤ 1099511627776) (hby : ie.bytes ≤ 128) :
    (Builtin.append_ #[t, u] ty' #[.slice base len cap, x]).run P w =
      .ok (.slice (some ⟨w.heap.size, 0, none⟩) (len + m) (grownCap w (len + m) cap e)) (w.drew.alloc (.cells (olds.toArray ++ news.toArray ++ Builtin.zeroCells z.cells (grownCap w (len + m) cap e - (len + m))) e)) := by
  obtain ⟨b, c, rfl⟩ := hx
  have hfit : Builtin.nextslicecap (len + m) cap * ie.bytes ≤ 281474976710656 := growslice_fits hgr (by
    have : (len + m) * ie.bytes ≤ 1099511627776 * 128 := Nat.mul_le_mul hsm hby
    omega)
  have h63 : ¬ (((len + m : Nat) : Int) > IntKind.i64.max ∧ (False ∨ ie.bytes = 0)) := by
    have : IntKind.i64.max = 9223372036854775807 := by decide
    rw [this]; omega
  have hroom : ¬ (len + m ≤ cap) := by omega
  have h48 : ¬ (281474976710656 < Builtin.nextslicecap (len + m) cap * ie.bytes) := by omega
  have hmax : IntKind.i64.max = 9223372036854775807 := by decide
  simp [Builtin.append_, run_underlying ht, run_underlying hu, sizeOf, typeInfo, zeroValue, hi, hz, Builtin.lenOf, hroom, h48, Question.forced, ho, hf, newRow, grownCap, hmax]
  rw [if_neg (by omega)]
  simp
  rw [← List.append_toArray, Array.append_assoc]

theorem semAppend_cond {objs : Nat → Ob} {st xt ety : TyI} {s x : PV} (hc : (semAppend objs dst st xt ety s x).1) :
    ∃ xs t, srcD objs x = some xs ∧ dst = some t ∧ objs t = .dead ∧ st.kind = 1 ∧ xt.kind = 1 ∧ ety.zok = true ∧ ety.bytes ≤ 128 ∧ (∀ d, d ∈ xs → d.cells.length = ety.size) ∧
      ((∃ o sz len cap l, s = .ref o sz 0 len cap ∧ objs o = .row sz l ∧ sz = ety.size ∧ len ≤ l.length ∧ len + xs.length ≤ 1099511627776 ∧
          (semAppend objs dst st xt ety s x).2 = { val := .ref t sz 0 (len + xs.length) (len + xs.length), wr := [(t, .row sz (l.take len ++ xs)), (o, .gone)], rd := srcR x }) ∨
       ((s = .nilS ∨ s = .z0) ∧ xs.length ≤ 1099511627776 ∧
          (semAppend objs dst st xt ety s x).2 = { val := .ref t ety.size 0 xs.length xs.length, wr := [(t, .row ety.size xs)], rd := srcR x })) := by
  unfold semAppend at hc ⊢
  cases hx : srcD objs x with
  | none => rw [hx] at hc; exact hc.elim
  | some xs =>
    rw [hx] at hc
    cases dst with
    | none => exact hc.elim
    | some t =>
    cases s <;> try exact hc.elim
    · rename_i o sz off len cap
      simp only at hc ⊢
      cases ho : objs o with
      | dead => rw [ho] at hc; exact hc.elim
      | gone => rw [ho] at hc; exact hc.elim
      | cells _ => rw [ho] at hc; exact hc.elim
      | row sz' l =>
        rw [ho] at hc
        simp only at hc
        obtain ⟨h1, h2, h3, h4, h5, h0, h6, h7, h8, h9, h10⟩ := hc
        subst h7; subst h8
        exact ⟨xs, t, rfl, rfl, h0, h1, h2, h3, h4, h5, .inl ⟨o, sz, len, cap, l, rfl, ho, h6, h9, h10, rfl⟩⟩
    · obtain ⟨h1, h2, h3, h4, h5, h0, h6⟩ := hc
      exact ⟨xs, t, rfl, rfl, h0, h1, h2, h3, h4, h5, .inr ⟨.inl rfl, h6, rfl⟩⟩
    · obtain ⟨h1, h2, h3, h4, h5, h0, h6⟩ := hc
      exact ⟨xs, t, rfl, rfl, h0, h1, h2, h3, h4, h5, .inr ⟨.inr rfl, h6, rfl⟩⟩

theorem zeroCells_one {z : Array Value} {m : Nat} (h1 : ∀ v ∈ z.toList, v.oneCell' = true) : ∀ (j : Nat) (v : Value), (Builtin.zeroCells z m)[j]? = some v → v.oneCell' = true := by
  intro j v hj
  unfold Builtin.zeroCells at hj
  rw [Array.getElem?_map] at hj
  cases hr : (Array.range (m * z.size))[j]? with
  | none => rw [hr] at hj; cases hj
  | some q =>
    rw [hr] at hj
    simp only [Option.map_some, Option.some.injEq] at hj
    subst hj
    have hlt : j < m * z.size := by have := (Array.getElem?_eq_some_iff.1 hr).1; simpa using this
    have h0 : 0 < z.size := by rcases Nat.eq_zero_or_pos z.size with h | h
                               · rw [h] at hlt; simp at hlt
                               · exact h
    have hq : q % z.size < z.size := Nat.mod_lt _ h0
    rw [getElem!_pos z _ hq]
    exact h1 _ (by simp)

/-- The array that append makes. -/
theorem row_new {Y : Nat → Prop} {sz k : Nat} {l xs : List D} {olds news : List Value} {zs : Array Value} (hol : olds.length = l.length * sz) (hnl : news.length = xs.length * sz)
    (hcl : ∀ d, d ∈ l ++ xs → d.cells.length = sz) (ho1 : ∀ u ∈ olds, u.oneCell' = true) (hn1 : ∀ u ∈ news, u.oneCell' = true) (hz1 : ∀ (j : Nat) (v : Value), zs[j]? = some v → v.oneCell' = true)
    (hoat : ∀ (i : Nat) d (j : Nat) e u, l[i]? = some d → d.cells[j]? = some e → olds[i * sz + j]? = some u → D.At w Y e u)
    (hnat : ∀ (i : Nat) d (j : Nat) e u, xs[i]? = some d → d.cells[j]? = some e → news[i * sz + j]? = some u → D.At w Y e u) (hk : zs.size = k) :
    (olds.toArray ++ news.toArray ++ zs).size = (l ++ xs).length * sz + k ∧ (∀ (j : Nat) (v : Value), (olds.toArray ++ news.toArray ++ zs)[j]? = some v → v.oneCell' = true) ∧
    ∀ (i : Nat) d (j : Nat) e v, (l ++ xs)[i]? = some d → d.cells[j]? = some e → (olds.toArray ++ news.toArray ++ zs)[i * sz + j]? = some v → D.At w Y e v := by
  refine ⟨by simp [hol, hnl, hk, Nat.add_mul], fun j v hj => ?_, fun i d j e v hi hj hv => ?_⟩
  · rw [Array.getElem?_append, Array.getElem?_append] at hj
    split at hj
    · split at hj
      · exact ho1 v (List.mem_of_getElem? (by simpa using hj))
      · exact hn1 v (List.mem_of_getElem? (by simpa using hj))
    · exact hz1 _ v hj
  · have hil := (List.getElem?_eq_some_iff.1 hi).1
    have hjs : j < sz := by rw [← hcl d (List.mem_of_getElem? hi)]; exact (List.getElem?_eq_some_iff.1 hj).1
    simp only [List.length_append] at hil
    have hlt : i * sz + j < (l.length + xs.length) * sz := by
      have : (i + 1) * sz ≤ (l.length + xs.length) * sz := Nat.mul_le_mul_right _ hil
      rw [Nat.add_mul] at this; omega
    rw [Nat.add_mul] at hlt
    rw [Array.getElem?_append_left (by simp [hol, hnl]; omega), Array.getElem?_append] at hv
    simp only [List.size_toArray, hol, List.getElem?_toArray] at hv
    rw [List.getElem?_append] at hi
    by_cases hc : i < l.length
    · rw [if_pos hc] at hi
      have : (i + 1) * sz ≤ l.length * sz := Nat.mul_le_mul_right _ hc
      rw [Nat.add_mul] at this
      rw [if_pos (by omega)] at hv
      exact hoat i d j e v hi hj hv
    · rw [if_neg hc] at hi
      have : l.length * sz ≤ i * sz := Nat.mul_le_mul_right _ (by omega)
      rw [if_neg (by omega)] at hv
      have heq : i * sz + j - l.length * sz = (i - l.length) * sz + j := by rw [Nat.sub_mul]; omega
      rw [heq] at hv
      exact hnat (i - l.length) d j e v hi hj hv
end hold
end Go.PS
