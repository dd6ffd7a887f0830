/- A region, in whatever order the model draws: the theorem. -/
import Derived.Test.YtpmmikkojpcogaaPSRegion3
namespace Go.PS
open Go

section
variable {P : Program} {own : Nat → Bool} {B X : Nat → Prop} {w0 : W0} {w : World} {n : Nat} {S : St} {a : Act} {ι : Nat → Option Nat} {ops : Array Oper}

/-- The operations that are not done yet. -/
def left (ops : Array Oper) (listed : Array Bool) : List Nat := (List.range ops.size).filter fun i => !listed.getD i true

theorem left_sorted (listed : Array Bool) : (left ops listed).Pairwise (· < ·) := List.Pairwise.filter _ List.pairwise_lt_range

theorem mem_left {listed : Array Bool} {i : Nat} : i ∈ left ops listed ↔ i < ops.size ∧ listed.getD i true = false := by
  simp [left]

theorem any_sound (E : Nat → Eff) {Sf : St} {Q : Exit → Act → World → Prop} (hpl : ∀ o ∈ ops.toList, Oper.plain n o = true)
    (hedge : ∀ k o, ops[k]? = some o → ∀ e ∈ o.after, Region.binds .any e = true → e.on < k)
    (hcomp : ∀ k i x y, i < k → ops[i]? = some x → ops[k]? = some y → ((Region.before ops).getD k 0).testBit i = true ∨ compat ops x y (E i).foot (E k).foot = true)
    (hQ : ∀ a' w' ι', Hold B X w0 n Sf a' w' ι' → Q .normal a' w') :
    ∀ (fuel : Nat) (listed : Array Bool) (S : St) (a : Act) (w : World) (ι : Nat → Option Nat), listed.size = ops.size → (left ops listed).length ≤ fuel →
      (∀ k o, listed.getD k true = true → ops[k]? = some o → ∀ e ∈ o.after, Region.binds .any e = true → listed.getD e.on false = true) →
      RunsI P own ops E (left ops listed) S Sf → Hold B X w0 n S a w ι → wpAny P .any ops Q fuel listed a w := by
  intro fuel
  have getDs : ∀ (listed : Array Bool) (i : Nat), i < listed.size → listed.getD i true = listed.getD i false := fun listed i hi => by simp [Array.getD, hi]
  have ready_sub : ∀ (listed : Array Bool) (i : Nat), i ∈ Region.ready .any ops listed → i ∈ left ops listed ∧ ∀ o, ops[i]? = some o → ∀ e ∈ o.after, Region.binds .any e = true → listed.getD e.on false = true := by
    intro listed i hi
    simp only [Region.ready, List.mem_filter, List.mem_range, Bool.and_eq_true, Bool.not_eq_true'] at hi
    refine ⟨mem_left.2 ⟨hi.1, hi.2.1⟩, fun o ho e he hb => ?_⟩
    have h := hi.2.2
    rw [ho] at h
    simp only [Option.map_some, Option.getD_some, Array.all_eq_true_iff_forall_mem] at h
    have := h e he
    rw [hb] at this
    simpa using this
  induction fuel with
  | zero =>
    intro listed S a w ι hsz hl hcl hr hS
    have h0 : left ops listed = [] := List.eq_nil_of_length_eq_zero (by omega)
    rw [h0] at hr
    cases hr
    refine ⟨?_, hQ _ _ _ hS⟩
    rw [List.eq_nil_iff_forall_not_mem]
    intro i hi
    have := (ready_sub listed i hi).1
    rw [h0] at this; cases this
  | succ fuel ih =>
    intro listed S a w ι hsz hl hcl hr hS
    refine ⟨fun hnil => ?_, fun i hi => ?_⟩
    · cases hL : left ops listed with
      | nil => rw [hL] at hr; cases hr; exact hQ _ _ _ hS
      | cons k rest =>
        exfalso
        have hk : k ∈ left ops listed := by rw [hL]; simp
        obtain ⟨hk1, hk2⟩ := mem_left.1 hk
        have : k ∈ Region.ready .any ops listed := by
          simp only [Region.ready, List.mem_filter, List.mem_range, Bool.and_eq_true, Bool.not_eq_true']
          refine ⟨hk1, hk2, ?_⟩
          rw [Array.getElem?_eq_getElem hk1]
          simp only [Option.map_some, Option.getD_some, Array.all_eq_true_iff_forall_mem]
          intro e he
          cases hb : Region.binds .any e with
          | false => rfl
          | true =>
            have hlt := hedge k _ (Array.getElem?_eq_getElem hk1) e he hb
            have hnm : e.on ∉ left ops listed := by
              intro hm
              rw [hL] at hm
              rcases List.mem_cons.1 hm with h | h
              · omega
              · have hs := left_sorted (ops := ops) listed
                rw [hL] at hs
                have := (List.pairwise_cons.1 hs).1 _ h
                omega
            rw [mem_left] at hnm
            have h1 : listed.getD e.on true = true := by
              cases hq : listed.getD e.on true with
              | true => rfl
              | false => exact absurd ⟨by omega, hq⟩ hnm
            simpa [← getDs listed e.on (by omega)] using h1
        rw [hnil] at this; cases this
    · obtain ⟨hmem, hpre⟩ := ready_sub listed i hi
      obtain ⟨hi1, hi2⟩ := mem_left.1 hmem
      have hio : ops[i]? = some ops[i] := Array.getElem?_eq_getElem hi1
      obtain ⟨pre, post, hL⟩ := List.append_of_mem hmem
      have hs := left_sorted (ops := ops) listed
      rw [hL] at hs hr
      have hs2 := List.pairwise_append.1 hs
      have hlt : ∀ j ∈ pre, j < i := fun j hj => hs2.2.2 j hj i (by simp)
      have hgt : ∀ j ∈ post, i < j := fun j hj => (List.pairwise_cons.1 hs2.2.1).1 j hj
      obtain ⟨hd, hrest⟩ := front hio pre post S Sf hr (fun j hj oj hoj => by
        rcases hcomp i j oj _ (hlt j hj) hoj hio with hb | hc
        · exfalso
          have := before_spec ops (fun j => listed.getD j false = true) (fun k o hk hko e he hb => ⟨hedge k o hko e he hb, hcl k o (by
              have hkk : k < listed.size := by rw [hsz]; exact (Array.getElem?_eq_some_iff.1 hko).1
              rw [getDs listed k hkk]; exact hk) hko e he hb⟩) i _ hio (fun e he hb => ⟨hedge i _ hio e he hb, hpre _ hio e he hb⟩) j hb
          have hjm : j ∈ left ops listed := by rw [hL]; simp [hj]
          obtain ⟨hj1, hj2⟩ := mem_left.1 hjm
          rw [getDs listed j (by omega)] at hj2
          rw [hj2] at this; cases this
        · exact hc)
      have hleft : left ops (listed.setIfInBounds i true) = pre ++ post := by
        have h1 : left ops (listed.setIfInBounds i true) = (left ops listed).filter (fun j => j != i) := by
          unfold left
          rw [List.filter_filter]
          refine List.filter_congr (fun j hj => ?_)
          simp only [List.mem_range] at hj
          simp only [Array.getD_eq_getD_getElem?, Array.getElem?_setIfInBounds, hsz]
          by_cases hji : i = j
          · subst hji; simp [hi1]
          · have hne : (j != i) = true := by simpa [bne_iff_ne] using Ne.symm hji
            simp [hji, hne]
        rw [h1, hL, List.filter_append, List.filter_cons]
        simp only [bne_self_eq_false, Bool.false_eq_true, if_false]
        congr 1
        · refine List.filter_eq_self.2 (fun j hj => ?_)
          have := hlt j hj
          simp only [bne_iff_ne, ne_eq]; omega
        · refine List.filter_eq_self.2 (fun j hj => ?_)
          have := hgt j hj
          simp only [bne_iff_ne, ne_eq]; omega
      refine does_wp hS hio (hpl _ (by simp)) hd (fun a' w' ι' h' => ?_)
      refine ih (listed.setIfInBounds i true) _ a' w' ι' (by simpa using hsz) ?_ ?_ ?_ h'
      · rw [hleft]
        have : (left ops listed).length = pre.length + (post.length + 1) := by rw [hL]; simp
        simp only [List.length_append]; omega
      · intro k o hk ho e he hb
        have key : listed.getD e.on false = true := by
          by_cases hki : i = k
          · subst hki; rw [hio] at ho; cases ho; exact hpre _ hio e he hb
          · refine hcl k o ?_ ho e he hb
            rw [Array.getD_eq_getD_getElem?, Array.getElem?_setIfInBounds, if_neg hki] at hk
            rw [Array.getD_eq_getD_getElem?]; exact hk
        rw [Array.getD_eq_getD_getElem?, Array.getElem?_setIfInBounds]
        split
        · split <;> simp_all
        · rw [Array.getD_eq_getD_getElem?] at key; exact key
      · rw [hleft]; exact hrest

theorem text_sound (E : Nat → Eff) {Sf : St} {Q : Exit → Act → World → Prop} (hpl : ∀ o ∈ ops.toList, Oper.plain n o = true) (hQ : ∀ a' w' ι', Hold B X w0 n Sf a' w' ι' → Q .normal a' w') :
    ∀ (l : List Nat) (S : St) (a : Act) (w : World) (ι : Nat → Option Nat), RunsI P own ops E l S Sf → Hold B X w0 n S a w ι → wpOps P ops Q l a w := by
  intro l
  induction l with
  | nil => rintro S a w ι h hS; cases h; exact hQ _ _ _ hS
  | cons i l ih =>
    rintro S a w ι ⟨o, ho, hd, hr⟩ hS
    rw [wpOps_cons]
    exact does_wp hS ho (hpl o (by simpa using Array.mem_of_getElem? ho)) hd (fun a' w' ι' h' => ih _ a' w' ι' hr h')

/-- A region. -/
theorem region_sound (hmix : P.follows .mixedOrders = true) {id : Nat} {draw : Bool} {K : St → List Foot → Prop} {Q : Exit → Act → World → Prop} (hS : Hold B X w0 n S a w ι)
    (hrun : wpRun P own ops.toList ops.toList S [] K) (hK : ∀ Sf fs, K Sf fs → okRegion n ops draw fs.reverse = true ∧ ∀ a' w' ι', Hold B X w0 n Sf a' w' ι' → Q .normal a' w') :
    (Code.region id ops draw).wp P Q a w := by
  obtain ⟨Sf, fs, hr, hk⟩ := runs_of_wpRun _ _ _ _ hrun
  obtain ⟨hok, hQ⟩ := hK _ _ hk
  simp only [List.append_nil, List.reverse_reverse] at hok
  obtain ⟨es, hel, rfl, hri⟩ := runs_es _ _ _ _ hr
  have hRI := hri (fun i => es.getD i default) 0 ops rfl (fun j o hj => by simpa using hj) (fun j e hj => by simp [List.getD, hj])
  rw [← List.range_eq_range'] at hRI
  simp only [Array.length_toList] at hRI hel
  simp only [okRegion, Bool.and_eq_true, List.all_eq_true] at hok
  obtain ⟨hpl, hdr⟩ := hok
  cases draw with
  | false => exact wp_region (text_sound _ hpl hQ _ S a w ι hRI hS)
  | true =>
    simp only [Bool.not_true, Bool.false_or, Bool.and_eq_true, List.all_eq_true, List.mem_range] at hdr
    obtain ⟨hedge, hcomp⟩ := hdr
    have hleft0 : left ops (Array.replicate ops.size false) = List.range ops.size := by
      unfold left
      refine List.filter_eq_self.2 (fun j hj => ?_)
      simp only [List.mem_range] at hj
      simp [Array.getD, hj]
    have hS' := hS.ext (w' := { w with drawn := w.drawn + 1 }) ⟨rfl, rfl, rfl, Nat.le_refl _, fun _ _ => rfl⟩
    refine wp_region_any hmix (any_sound (own := own) (fun i => es.getD i default) hpl ?_ ?_ hQ ops.size _ S a _ ι (by simp) (by rw [hleft0]; simp) ?_ (by rw [hleft0]; exact hRI) hS')
    · intro k o ho e he hb
      have := hedge (o, k) (by
        rw [List.mem_zipIdx_iff_getElem?]
        simpa using ho) e (by simpa using he)
      rw [hb] at this
      simpa using this
    · intro k i x y hik hx hy
      have hk := (Array.getElem?_eq_some_iff.1 hy).1
      have := hcomp k hk i hik
      rw [hx, hy] at this
      simp only [Bool.or_eq_true] at this
      rcases this with h | h
      · exact .inl h
      · refine .inr ?_
        have e1 : ∀ j, j < ops.size → (es.map Eff.foot).getD j ([], []) = (es.getD j default).foot := fun j hj => by
          have : j < es.length := by omega
          simp [List.getD, this]
        rw [e1 i (by omega), e1 k hk] at h
        exact h
    · intro k o hk ho
      have hlt := (Array.getElem?_eq_some_iff.1 ho).1
      simp [Array.getD, hlt] at hk
end
end Go.PS
