/- What the laws' arguments are as data. -/
import Derived.Test.YtcbcccphlhpajaaA
import Derived.Test.YtcbcccphlhpajaaPSBridge
namespace Go.Proofs.Ytcbcccphlhpajaa
open Go Go.PS Go.Proofs
theorem cells_int {n : Nat} {cs : List D} (h : CellsOk Try.prog (n + 1) 3 cs) : ∃ m : Int, cs = [.int m] := by
  have hu : Try.prog.underlying 3 = some (.int .i64) := by kernel_rfl
  simp only [CellsOk, hu] at h
  obtain ⟨m, rfl, _⟩ := h
  exact ⟨m, rfl⟩
theorem arg_int {x : D} (h : ArgOk Try.prog 3 x) : ∃ m : Int, x = .int m := by
  obtain ⟨cs, h, rfl⟩ := h
  obtain ⟨m, rfl⟩ := cells_int h
  rw [ty3]
  exact ⟨m, rfl⟩
theorem cells_bd {n : Nat} {cs : List D} (h : CellsOk Try.prog (n + 2) 44 cs) : ∃ p : Bd, cs = [.int p.1, .int p.2.1, .int p.2.2.1, .int p.2.2.2] := by
  have h := cells_struct (ts := [3, 3, 3, 3]) (by kernel_rfl) h
  obtain ⟨p, r, rfl, hp, q, r', rfl, hq, s, r'', rfl, hs, t, r3, rfl, ht, rfl⟩ := h
  obtain ⟨a, rfl⟩ := cells_int hp
  obtain ⟨b, rfl⟩ := cells_int hq
  obtain ⟨c, rfl⟩ := cells_int hs
  obtain ⟨d, rfl⟩ := cells_int ht
  exact ⟨(a, b, c, d), rfl⟩
theorem cells_bds {n : Nat} {cs : List D} (h : CellsOk Try.prog (n + 3) 22 cs) : ∃ l : List Bd, cs = [bdsD l] := by
  obtain ⟨l, rfl, hl⟩ := cells_slice (e := 44) (by kernel_rfl) h
  obtain ⟨ys, rfl⟩ := map_of (f := bdD) (l := l) (fun d hd => by
    obtain ⟨es, rfl, _, he⟩ := hl d hd
    obtain ⟨p, rfl⟩ := cells_bd he
    rw [ty44]; exact ⟨p, rfl⟩)
  exact ⟨ys, rfl⟩
theorem cells_ints {n : Nat} {cs : List D} (h : CellsOk Try.prog (n + 2) 25 cs) : ∃ l : List Int, cs = [intsD l] := by
  obtain ⟨l, rfl, hl⟩ := cells_slice (e := 3) (by kernel_rfl) h
  obtain ⟨ys, rfl⟩ := map_of (f := D.int) (l := l) (fun d hd => by
    obtain ⟨es, rfl, _, he⟩ := hl d hd
    obtain ⟨p, rfl⟩ := cells_int he
    rw [ty3]; exact ⟨p, rfl⟩)
  exact ⟨ys, rfl⟩
theorem arg_ints {x : D} (h : ArgOk Try.prog 25 x) : ∃ l : List Int, x = intsD l := by
  obtain ⟨cs, h, rfl⟩ := h
  obtain ⟨l, rfl⟩ := cells_ints h
  rw [ty25]; exact ⟨l, rfl⟩
theorem arg_g {x : D} (h : ArgOk Try.prog 24 x) : ∃ g : Net, x = nD g := by
  obtain ⟨cs, h, rfl⟩ := h
  have h := cells_struct (ts := [3, 22]) (by kernel_rfl) h
  obtain ⟨_, _, rfl, h1, _, _, rfl, h2, rfl⟩ := h
  obtain ⟨a, rfl⟩ := cells_int h1
  obtain ⟨l, rfl⟩ := cells_bds h2
  rw [ty24]
  exact ⟨(a, l), rfl⟩
end Go.Proofs.Ytcbcccphlhpajaa
