/- A segment, read: plain, and the walks through segment.Get and segment.Range. -/
import Derived.Test.YtfopbkgbegeffaaKSgCols2
namespace Go.Proofs.Ytfopbkgbegeffaa
open Go.RowKit
set_option linter.unusedVariables false

def Sg.getR (s : ByteArray) : Int × List Pt.Point × Int :=
  if s.size < 12 then (0, [], 1300) else
    if Sg.tailB (Sm.hashL (s.extract 0 (s.size - 8)).data.toList) ≠ s.extract (s.size - 8) s.size then (0, [], 1301) else
      if (Sg.colsR (s.extract 0 (s.size - 8))).2.2 = false then (0, [], 1300) else ((Sg.colsR (s.extract 0 (s.size - 8))).1, (Sg.colsR (s.extract 0 (s.size - 8))).2.1, 0)
section
variable {s b t : ByteArray} {m : Nat}
theorem get_short (h : s.size < 12) : Sg.getR s = (0, [], 1300) := by unfold Sg.getR; rw [if_pos h]
theorem get_tail (h : s.size = m + 8) (hm : 4 ≤ m) (hb : s.extract 0 m = b) (ht : s.extract m (m + 8) = t) (hx : Sg.tailB (Sm.hashL b.data.toList) ≠ t) : Sg.getR s = (0, [], 1301) := by
  unfold Sg.getR; rw [if_neg (by omega), h, Nat.add_sub_cancel, hb, ht, if_pos hx]
theorem get_cols (h : s.size = m + 8) (hm : 4 ≤ m) (hb : s.extract 0 m = b) (ht : s.extract m (m + 8) = t) (hx : Sg.tailB (Sm.hashL b.data.toList) = t) (hc : (Sg.colsR b).2.2 = false) : Sg.getR s = (0, [], 1300) := by
  unfold Sg.getR; rw [if_neg (by omega), h, Nat.add_sub_cancel, hb, ht, if_neg (fun e => e hx), if_pos hc]
theorem get_good (h : s.size = m + 8) (hm : 4 ≤ m) (hb : s.extract 0 m = b) (ht : s.extract m (m + 8) = t) (hx : Sg.tailB (Sm.hashL b.data.toList) = t) (hc : (Sg.colsR b).2.2 = true) : Sg.getR s = ((Sg.colsR b).1, (Sg.colsR b).2.1, 0) := by
  unfold Sg.getR; rw [if_neg (by omega), h, Nat.add_sub_cancel, hb, ht, if_neg (fun e => e hx), if_neg (by rw [hc]; simp)]
end
def GetPost (w : World) (q : Int × List Pt.Point × Int) (e : Ending) (w' : World) : Prop :=
  ∃ v, e = .returned (.tuple #[.int .i64 q.1, v, .int .i64 q.2.2]) ∧ w'.ownsRow w.heap.size 58 3 v q.2.1.length (q.2.1.flatMap pointCells) ∧ Below w.heap.size w w'
set_option maxRecDepth 100000 in
set_option maxHeartbeats 1600000 in
theorem sgget_any (s : ByteArray) (w : World) (hs : s.size ≤ 140737488355328) :
    Calls Try.prog 61 #[.string s] w (GetPost w (Sg.getR s)) := by
  by_cases h12 : s.size < 12
  · have HR := Lib.hid (get_short h12)
    generalize Sg.getR s = res at *
    go_enter Try.func61, Try.ntmps61
    go_wp2_with fail
    go_ret3
    exact ⟨_, by rw [HR.out]; rfl, by rw [HR.out]; exact own_nil _ _ _ _, Below.refl _ _⟩
  · obtain ⟨m, hm⟩ : ∃ m, s.size = m + 8 := ⟨s.size - 8, by omega⟩
    have hm4 : 4 ≤ m := by omega
    have hbs : (s.extract 0 m).size = m := by rw [ByteArray.size_extract]; omega
    have HTl := Lib.hid (get_tail (b := s.extract 0 m) (t := s.extract m (m + 8)) hm hm4 rfl rfl)
    have HCl := Lib.hid (get_cols (b := s.extract 0 m) (t := s.extract m (m + 8)) hm hm4 rfl rfl)
    have HGd := Lib.hid (get_good (b := s.extract 0 m) (t := s.extract m (m + 8)) hm hm4 rfl rfl)
    have HC := fun W => Lib.hid (columns_any (s.extract 0 m) W (by omega) (by omega))
    have HH := fun W => Lib.hid (hash_any (s.extract 0 m) W (by unfold maxLen; omega))
    generalize Sg.getR s = res at *
    go_enter Try.func61, Try.ntmps61
    go_wp2_with fail
    have hhl := Sm.hashL_lt (s.extract 0 m).data.toList
    have HT := fun W => Lib.hid (tail_any (Sm.hashL (s.extract 0 m).data.toList) W hhl)
    have hsl : s.extract m s.size = s.extract m (m + 8) := by rw [hm]
    have hle : (m : Int) ≤ (m : Int) + 8 := by omega
    have hle2 : (m : Int) ≤ (s.size : Int) := by omega
    generalize hQ : Sg.colsR (s.extract 0 m) = Q at *
    clear hQ
    generalize Sm.hashL (s.extract 0 m).data.toList = hh at *
    generalize Sg.tailB hh = TB at *
    obtain ⟨r, ps, ok⟩ := Q
    simp only at HCl HGd
    by_cases htl : TB = s.extract m (m + 8)
    · have hz : (TB.toList == (s.extract m (m + 8)).toList) = true := str_eq_of htl
      have HCl' := Lib.hid (HCl.out htl)
      have HGd' := Lib.hid (HGd.out htl)
      clear htl HTl HCl HGd
      refine wp_region_aft w.heap.size w (by kernel_rfl) (by kernel_rfl) (Below.refl _ _) ?_
      repeat (go_big_quiet_step (first | (go_at_call 55; with_reducible exact aft_same (Hid.out (HH _))) | (go_at_call 54; with_reducible exact aft_new (Nat.le_refl _) (Hid.out (HT _)))))
      refine wpQuiet_nil ?_
      rintro _ ⟨x, rfl⟩
      have Hx := Lib.hid x.below
      generalize x.world = w3 at *
      go_wp2_with fail
      refine (HC _).out.mono ?_
      rintro e w4 ⟨v, rfl, hown, hb4⟩
      have Hown := Lib.hid hown
      have hs3 := Hx.out.size
      have Hb4 := Lib.hid (Hx.out.trans (hb4.mono hs3))
      clear hown hb4
      cases ok
      · have HR := Lib.hid (HCl'.out rfl)
        clear HCl' HGd'
        go_wp2_with fail
        go_ret3
        exact ⟨_, by rw [HR.out]; rfl, by rw [HR.out]; exact own_nil _ _ _ _, Hb4.out⟩
      · have HR := Lib.hid (HGd'.out rfl)
        clear HCl' HGd'
        go_wp2_with fail
        go_ret3
        exact ⟨_, by rw [HR.out]; rfl, by rw [HR.out]; exact own_down Hown.out hs3, Hb4.out⟩
    · have hz : (TB.toList == (s.extract m (m + 8)).toList) = false := str_ne_of htl
      have HR := Lib.hid (HTl.out htl)
      clear htl HTl HCl HGd
      refine wp_region_aft w.heap.size w (by kernel_rfl) (by kernel_rfl) (Below.refl _ _) ?_
      repeat (go_big_quiet_step (first | (go_at_call 55; with_reducible exact aft_same (Hid.out (HH _))) | (go_at_call 54; with_reducible exact aft_new (Nat.le_refl _) (Hid.out (HT _)))))
      refine wpQuiet_nil ?_
      rintro _ ⟨x, rfl⟩
      have Hx := Lib.hid x.below
      generalize x.world = w3 at *
      go_wp2_with fail
      go_ret3
      exact ⟨_, by rw [HR.out]; rfl, by rw [HR.out]; exact own_nil _ _ _ _, Hx.out⟩
end Go.Proofs.Ytfopbkgbegeffaa
