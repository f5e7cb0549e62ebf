/- The walk through wire.Reader's Num. -/
import Derived.Test.YthdbmgjlegpbaaaWireGet
import Derived.Test.YthdbmgjlegpbaaaPtPlain
import Derived.Test.YthdbmgjlegpbaaaFrame
namespace Go.Proofs.Ythdbmgjlegpbaaa
open Go.RowKit
set_option linter.unusedVariables false

/-- block g is a wire.Reader over s in the state r -/
def RdAt (w : World) (g : Nat) (s : ByteArray) (r : Pt.St) : Prop := Blk w g 83 #[.string s, .int .i64 r.1, .bool r.2]
section
variable {w w' : World} {g : Nat} {s : ByteArray} {r : Pt.St}
theorem RdAt.cell0 (h : RdAt w g s r) : w.cell? ⟨g, 0, none⟩ = some (.string s) := Blk.cell h 0
theorem RdAt.cell1 (h : RdAt w g s r) : w.cell? ⟨g, 1, none⟩ = some (.int .i64 r.1) := Blk.cell h 1
theorem RdAt.cell2 (h : RdAt w g s r) : w.cell? ⟨g, 2, none⟩ = some (.bool r.2) := Blk.cell h 2
theorem RdAt.frozen (h : RdAt w g s r) (i : Nat) : w.frozen? ⟨g, i, none⟩ = false := Blk.frozen h i
theorem RdAt.lt (h : RdAt w g s r) : g < w.heap.size := Blk.lt h
theorem RdAt.bad (h : RdAt w g s r) (b : Bool) : RdAt (w.setCell ⟨g, 2, none⟩ (.bool b)) g s (r.1, b) := Blk.set_ h 2 (.bool b)
theorem RdAt.at_ (h : RdAt w g s r) (a : Int) : RdAt (w.setCell ⟨g, 1, none⟩ (.int .i64 a)) g s (a, r.2) := Blk.set_ h 1 (.int .i64 a)
theorem RdAt.drewN (h : RdAt w g s r) (n : Nat) : RdAt (w.drewN n) g s r := h
theorem RdAt.only {S : Nat → Prop} (h : RdAt w g s r) (ho : Only S w w') (hg : ¬ S g) : RdAt w' g s r := Blk.only h ho hg
theorem RdAt.alloc (h : RdAt w g s r) (o : Obj) : RdAt (w.alloc o) g s r := Blk.alloc h o
theorem RdAt.new (w : World) (s : ByteArray) (a : Int) : RdAt (w.alloc (.cells #[.string s, .int .i64 a, .bool false] 83)) w.heap.size s (a, false) := Blk.new w _ _
theorem RdAt.below {B : Nat} (h : RdAt w g s r) (hb : Below B w w') (hg : g < B) : RdAt w' g s r := Blk.below h hb hg
end

def RdPost (g : Nat) (s : ByteArray) (w : World) (v : Value) (r : Pt.St) (e : Ending) (w' : World) : Prop := e = .returned v ∧ RdAt w' g s r ∧ Only (fun k => k = g) w w'

theorem rd_stop {w : World} {g : Nat} {s : ByteArray} {r : Pt.St} (h : RdAt w g s r) (n : Nat) : RdAt ((w.drewN n).setCell ⟨g, 2, none⟩ (.bool true)) g s (r.1, true) ∧ Only (fun k => k = g) w ((w.drewN n).setCell ⟨g, 2, none⟩ (.bool true)) :=
  ⟨(h.drewN n).bad true, ((Only.refl (fun k => k = g) w).drewN n).setCell (fun _ => rfl) _⟩
theorem rd_go {w : World} {g : Nat} {s : ByteArray} {r : Pt.St} (h : RdAt w g s r) (n : Nat) (a : Int) : RdAt ((w.drewN n).setCell ⟨g, 1, none⟩ (.int .i64 a)) g s (a, r.2) ∧ Only (fun k => k = g) w ((w.drewN n).setCell ⟨g, 1, none⟩ (.int .i64 a)) :=
  ⟨(h.drewN n).at_ a, ((Only.refl (fun k => k = g) w).drewN n).setCell (fun _ => rfl) _⟩

set_option maxRecDepth 100000 in
set_option maxHeartbeats 800000 in
theorem readerNum_any (s : ByteArray) (a : Int) (bad : Bool) (lo hi : Int) (w : World) (g : Nat) (hR : RdAt w g s (a, bad)) (hs : s.size ≤ 9223372036854775000) (ha : -9223372036854775808 ≤ a ∧ a ≤ 9223372036854775807) :
    Calls Try.prog 44 #[.pointer (some ⟨g, 0, none⟩), .int .i64 lo, .int .i64 hi] w (RdPost g s w (.int .i64 (Pt.rdNum s lo hi (a, bad)).1) (Pt.rdNum s lo hi (a, bad)).2) := by
  have H1 := fun W => Lib.hid (getNum_any s a W hs ha)
  have hc0 := hR.cell0
  have hc1 := hR.cell1
  have hc2 := hR.cell2
  have hf1 := hR.frozen 1
  have hf2 := hR.frozen 2
  have HR := Lib.hid hR
  clear hR hs ha
  have hdef : Pt.rdNum s lo hi (a, bad) = if (Wr.getN s.data.toList a).2.2 ≠ 0 ∨ (Wr.getN s.data.toList a).1 < lo ∨ hi < (Wr.getN s.data.toList a).1 ∨ bad = true then (0, (a, true)) else ((Wr.getN s.data.toList a).1, ((Wr.getN s.data.toList a).2.1, false)) := rfl
  generalize Pt.rdNum s lo hi (a, bad) = res at *
  generalize Wr.getN s.data.toList a = r at *
  obtain ⟨x, m, e0⟩ := r
  simp only at hdef hc1 hc2
  simp only [gnV] at H1
  by_cases h0 : e0 = 0
  · by_cases h1 : x < lo
    · have Hres : Hid (res = (0, (a, true))) := by rw [if_pos (.inr (.inl h1))] at hdef; exact hdef
      have hz : (e0 != 0) = false := by simp [h0]
      clear hdef h0
      go_enter Try.func44, Try.ntmps44
      go_wp2_with fail
      go_quiet ((go_at_call 73; exact quiet_left (Hid.out (H1 _))))
      go_wp2_with fail
      go_ret
      exact ⟨by rw [Hres.out]; rfl, by rw [Hres.out]; exact (rd_stop HR.out nq).1, (rd_stop HR.out nq).2⟩
    · by_cases h2 : hi < x
      · have Hres : Hid (res = (0, (a, true))) := by rw [if_pos (.inr (.inr (.inl h2)))] at hdef; exact hdef
        have hz : (e0 != 0) = false := by simp [h0]
        clear hdef h0
        go_enter Try.func44, Try.ntmps44
        go_wp2_with fail
        go_quiet ((go_at_call 73; exact quiet_left (Hid.out (H1 _))))
        go_wp2_with fail
        go_ret
        exact ⟨by rw [Hres.out]; rfl, by rw [Hres.out]; exact (rd_stop HR.out nq).1, (rd_stop HR.out nq).2⟩
      · cases bad
        · have Hres : Hid (res = (x, (m, false))) := by rw [if_neg (by simp [h0, h1, h2])] at hdef; exact hdef
          have hz : (e0 != 0) = false := by simp [h0]
          clear hdef h0
          go_enter Try.func44, Try.ntmps44
          go_wp2_with fail
          go_quiet ((go_at_call 73; exact quiet_left (Hid.out (H1 _))))
          go_wp2_with fail
          go_ret
          exact ⟨by rw [Hres.out]; rfl, by rw [Hres.out]; exact (rd_go HR.out nq m).1, (rd_go HR.out nq m).2⟩
        · have Hres : Hid (res = (0, (a, true))) := by rw [if_pos (.inr (.inr (.inr rfl)))] at hdef; exact hdef
          have hz : (e0 != 0) = false := by simp [h0]
          clear hdef h0
          go_enter Try.func44, Try.ntmps44
          go_wp2_with fail
          go_quiet ((go_at_call 73; exact quiet_left (Hid.out (H1 _))))
          go_wp2_with fail
          go_ret
          exact ⟨by rw [Hres.out]; rfl, by rw [Hres.out]; exact (rd_stop HR.out nq).1, (rd_stop HR.out nq).2⟩
  · have Hres : Hid (res = (0, (a, true))) := by rw [if_pos (.inl h0)] at hdef; exact hdef
    have hz : (e0 != 0) = true := by simp [h0]
    clear hdef h0
    go_enter Try.func44, Try.ntmps44
    go_wp2_with fail
    go_quiet ((go_at_call 73; exact quiet_left (Hid.out (H1 _))))
    go_wp2_with fail
    go_ret
    exact ⟨by rw [Hres.out]; rfl, by rw [Hres.out]; exact (rd_stop HR.out nq).1, (rd_stop HR.out nq).2⟩

end Go.Proofs.Ythdbmgjlegpbaaa
