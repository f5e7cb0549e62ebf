/- The walk through files of cachetlaw15: segments of lists of points. -/
import Derived.Test.YthdbmgjlegpbaaaKRfMerge
import Derived.Test.YthdbmgjlegpbaaaK8
import Derived.Test.YthdbmgjlegpbaaaKQbadLaw
namespace Go.Proofs.Ythdbmgjlegpbaaa
open Go.RowKit
set_option linter.unusedVariables false

namespace Rf
def none' : ByteArray := ⟨#[110, 111, 32, 115, 101, 103, 109, 101, 110, 116]⟩
def one (k : Nat) (l : List Pt.Point) : List ByteArray := if (Sg.putR (1 + (k : Int)) (Qm.mergeP l [])).2 = 0 then [(Sg.putR (1 + (k : Int)) (Qm.mergeP l [])).1] else []
/-- the texts of the first k lists -/
def filesK (ls : List (List Pt.Point)) (k : Nat) : List ByteArray := (List.range k).flatMap fun i => one i (ls.getD i [])
def segsR (ls : List (List Pt.Point)) (bad : Bool) : List ByteArray := filesK ls ls.length ++ if bad = true then [none'] else []
theorem files_snoc (ls : List (List Pt.Point)) (k : Nat) (hk : k < ls.length) : filesK ls (k + 1) = filesK ls k ++ one k ls[k] := by
  unfold filesK
  rw [List.range_succ, List.flatMap_append]
  simp [hk]
theorem one_len (k : Nat) (l : List Pt.Point) : (one k l).length ≤ 1 := by unfold one; split <;> simp
theorem one_far (k : Nat) (l : List Pt.Point) (h : 512 ≤ k) : one k l = [] := by
  unfold one
  rw [putR_range (.inr (by omega))]; rfl
theorem files_len (ls : List (List Pt.Point)) (k : Nat) : (filesK ls k).length ≤ k ∧ (filesK ls k).length ≤ 512 := by
  unfold filesK
  induction k with
  | zero => simp
  | succ k ih =>
    rw [List.range_succ, List.flatMap_append, List.length_append, List.flatMap_cons, List.flatMap_nil, List.append_nil]
    have h1 := one_len k (ls.getD k [])
    by_cases h : 512 ≤ k
    · rw [one_far k _ h, List.length_nil]; omega
    · omega
theorem one_good (k : Nat) (l : List Pt.Point) : ∀ s ∈ one k l, s.size ≤ 5000 ∧ Sg.getR s = (1 + (k : Int), Qm.mergeP l [], 0) ∧ (Qm.mergeP l []).length ≤ 64 := by
  intro s hs
  unfold one at hs
  split at hs
  · rename_i h
    rw [List.mem_singleton] at hs
    subst hs
    by_cases hr : (1 + (k : Int)) < 1 ∨ 512 < (1 + (k : Int))
    · rw [putR_range hr] at h; cases h
    · cases hp : Sg.riseB (Qm.mergeP l [])
      · rw [putR_form hr hp] at h; cases h
      · rw [putR_good hr hp]
        refine ⟨?_, get_file (by omega) hp, rise_len hp⟩
        have := body_le (r := (1 + (k : Int))) hp
        rw [file_size]; omega
  · cases hs
theorem files_good (ls : List (List Pt.Point)) (k : Nat) : ∀ s ∈ filesK ls k, s.size ≤ 5000 ∧ (Sg.getR s).2.2 = 0 := by
  intro s hs
  unfold filesK at hs
  obtain ⟨i, _, hi⟩ := List.mem_flatMap.1 hs
  have := one_good i _ s hi
  exact ⟨this.1, by rw [this.2.1]⟩
theorem segs_len (ls : List (List Pt.Point)) (bad : Bool) : (segsR ls bad).length ≤ 513 := by
  unfold segsR
  rw [List.length_append]
  have := (files_len ls ls.length).2
  split <;> simp <;> omega
theorem segs_size (ls : List (List Pt.Point)) (bad : Bool) : ∀ s ∈ segsR ls bad, s.size ≤ 5000 := by
  intro s hs
  unfold segsR at hs
  rcases List.mem_append.1 hs with hs | hs
  · exact (files_good ls _ s hs).1
  · split at hs
    · rw [List.mem_singleton] at hs; subst hs; decide
    · cases hs
theorem segs_ok (ls : List (List Pt.Point)) : Qr.okS (segsR ls false) = true := by
  unfold Qr.okS
  rw [List.all_eq_true]
  intro s hs
  unfold segsR at hs
  simp only [Bool.false_eq_true, if_false, List.append_nil] at hs
  exact decide_eq_true (files_good ls _ s hs).2
theorem getR_may (s : ByteArray) : ∀ q ∈ (Sg.getR s).2.1, Pt.mayB q = true := by
  unfold Sg.getR
  split
  · simp
  · split
    · simp
    · split
      · simp
      · rename_i hc
        rw [Bool.not_eq_false] at hc
        show ∀ q ∈ (Sg.colsR _).2.1, _
        have key : ∀ t, (Sg.colsR t).2.2 = true → ∀ q ∈ (Sg.colsR t).2.1, Pt.mayB q = true := by
          intro t
          unfold Sg.colsR
          split
          · simp
          · split
            · simp
            · exact fun h => rise_may h
        exact key _ hc
theorem pts_names (s : ByteArray) : ∀ q ∈ Qr.ptsOf s, q.1.size ≤ 12 := fun q hq => names_short (ps := [q]) (fun p hp => by rw [List.mem_singleton] at hp; subst hp; exact getR_may s p hq) q.1 (by simp [Sg.names])
theorem pts_len (s : ByteArray) : (Qr.ptsOf s).length ≤ 64 := getR_lenQ s
end Rf
def TxtPost (w : World) (X : List ByteArray) (e : Ending) (w' : World) : Prop := ∃ v, e = .returned v ∧ w'.ownsRow w.heap.size 9 1 v X.length (X.map Value.string) ∧ Below w.heap.size w w'
set_option maxRecDepth 100000 in
set_option maxHeartbeats 4000000 in
theorem files_any (A : Option Addr) (c : Nat) (lists : List Lay) (bad : Bool) (w : World) (B : Nat) (hr : Reads w B 1 A lists.length (lists.map layV)) (hB : B ≤ w.heap.size) (hls : ∀ y ∈ lists, Reads w B 3 y.1 y.2.2.length (y.2.2.flatMap pointCells)) (hn : ∀ y ∈ lists, y.2.2.length + 3 ≤ 4398046511104) (hw : ∀ y ∈ lists, ∀ q ∈ y.2.2, Pt.wf q ∧ q.1.size ≤ 9223372036854775807) (hl : lists.length ≤ 1048576) :
    Calls Try.prog 21 #[.slice A lists.length c, .bool bad] w (TxtPost w (Rf.segsR (lists.map (·.2.2)) bad)) := by
  obtain ⟨i1, hi', hy0, hy1, hy2⟩ := info_parts info_string
  have HM := Lib.hid (fun (y : Lay) (hy : y ∈ lists) (W : World) (h : Below w.heap.size w W) => rmerge_any y.1 none y.2.1 0 y.2.2 [] W B ((hls y hy).below (h.mono hB)) Reads.none_ (by have := h.size; omega) (by have := hn y hy; simpa using this) (fun q hq => (hw y hy q hq).2) (fun q hq => by cases hq))
  have HP := Lib.hid (fun (y : Lay) (hy : y ∈ lists) (r : Int) (A5 : Option Addr) (c5 : Nat) (W : World) (hr5 : Reads W W.heap.size 3 A5 (Qm.mergeP y.2.2 []).length ((Qm.mergeP y.2.2 []).flatMap pointCells)) => rsgput_any r A5 c5 (Qm.mergeP y.2.2 []) W W.heap.size hr5 (Nat.le_refl _) (by
      have h1 := Qm.mergeP_len y.2.2 []
      have h2 := hn y hy
      rw [List.length_nil] at h1
      omega) (fun p hp => (hw y hy p (by have := Rf.set_sub hp; rwa [List.append_nil] at this)).1) (fun p hp => (hw y hy p (by have := Rf.set_sub hp; rwa [List.append_nil] at this)).2))
  have HR := Lib.hid hr
  have HF := Lib.hid (fun k (y : Lay) (hk : lists[k]? = some y) => by
    obtain ⟨h, he⟩ := List.getElem?_eq_some_iff.1 hk
    have := Rf.files_snoc (lists.map (·.2.2)) k (by rw [List.length_map]; exact h)
    rw [List.getElem_map, he] at this
    exact this)
  have HFl := Lib.hid (Rf.files_len (lists.map (·.2.2)))
  have HF0 : Hid (Rf.filesK (lists.map (·.2.2)) 0 = []) := rfl
  have HFe : Hid (Rf.segsR (lists.map (·.2.2)) bad = Rf.filesK (lists.map (·.2.2)) lists.length ++ if bad = true then [Rf.none'] else []) := by
    show _ = _
    unfold Rf.segsR
    rw [List.length_map]
  obtain ⟨F, hF⟩ : ∃ F : Nat → List ByteArray, ∀ k, F k = Rf.filesK (lists.map (·.2.2)) k := ⟨fun k => Rf.filesK (lists.map (·.2.2)) k, fun _ => rfl⟩
  simp only [← hF] at HF HFl HF0 HFe
  generalize Rf.segsR (lists.map (·.2.2)) bad = res at *
  clear hr hls hn hw hF
  go_enter Try.func21, Try.ntmps21
  go_wp2_with fail
  go_loopw [5, 6, 7, 8] (fun vo i _ _ wr => ∃ (k : Nat), k ≤ lists.length ∧ i = .int .i64 (k : Int) ∧ Hid (wr.ownsRow w.heap.size 9 1 vo (F k).length ((F k).map Value.string)) ∧ Hid (Below w.heap.size w wr)) (fun _ i _ _ _ => lists.length - (intOf i).toNat)
  case atStart => exact ⟨0, Nat.zero_le _, rfl, Lib.hid (by rw [HF0.out]; exact own_nil _ _ _ _), Lib.hid (Below.refl _ _)⟩
  case round =>
    obtain ⟨k, hk, rfl, hown, hbw⟩ := hrel
    have hsw := hbw.out.size
    have hfl := (HFl.out k).1
    by_cases hlt : k < lists.length
    · have hltI : (k : Int) < (lists.length : Int) := by omega
      obtain ⟨y, hy⟩ : ∃ y, lists[k]? = some y := ⟨_, List.getElem?_eq_getElem hlt⟩
      have hye : lists[k] = y := (List.getElem?_eq_some_iff.1 hy).2
      obtain ⟨b, off, rfl, hbl, hc⟩ := HR.out.2 (by omega)
      have hcy : wr.cell? ⟨b, off + k, none⟩ = some (layV y) := (hbw.out.cell (p := ⟨b, off + k, none⟩) (show b < _ by omega)).trans (hc k _ (by simp [hlt, hye]))
      have hmy := List.mem_of_getElem? hy
      have HX := Lib.hid (HM.out y hmy wr hbw.out)
      have HQ := Lib.hid (HP.out y hmy (1 + (k : Int)))
      have hst := HF.out k y hy
      unfold Rf.one at hst
      have Hst := Lib.hid hst
      clear hc hye hy hmy hst
      obtain ⟨ya, yc, ps⟩ := y
      unfold layV at hcy
      dsimp only at hcy HX HQ Hst
      generalize Qm.mergeP ps [] = mp at *
      have hw1 : wrap64 (1 + (k : Int)) = 1 + (k : Int) := by rw [IntWalk.wrap64_in _ ⟨by omega, by omega⟩]
      go_wp2_with fail
      refine HX.out.mono ?_
      rintro e w2 ⟨v2, rfl, hown2, hb2⟩
      obtain ⟨A5, c5, rfl, _, hr5⟩ := own_slice hown2
      have HY := Lib.hid (HQ.out A5 c5 w2 hr5)
      have Hb2 : Hid (Below wr.heap.size wr w2) := hb2
      have hs2 := hb2.size
      generalize Sg.putR (1 + (k : Int)) mp = q at *
      obtain ⟨qs, qe⟩ := q
      dsimp only at HY Hst
      clear HX HQ hr5 hown2 hb2
      go_wp2_with fail
      refine HY.out.mono ?_
      rintro e w3 ⟨rfl, hb3⟩
      have hb23 : Below wr.heap.size wr w3 := Hb2.out.trans (hb3.mono hs2)
      have Hown3 := Lib.hid (own_only hown.out (Only.new (fun _ => False) hb23) (fun _ _ q => q))
      have Hb3 : Hid (Below w.heap.size w w3) := hbw.out.trans (hb23.mono hsw)
      have hs3 := Hb3.out.size
      clear HY hb3 hb23 Hb2 hown hbw
      by_cases he : qe = 0
      · subst he
        have Hst2 : Hid (F (k + 1) = F k ++ [qs]) := by have := Hst.out; rw [if_pos rfl] at this; exact this
        clear Hst
        go_wp2_with (at_builtin; refine wpList_push _ rfl _ _ 24 rfl w.heap.size 9 i1 _ 1 16 Try.underlying24 hi' hy0 hy1 hy2 rfl (by decide) _ (F k).length _ (by rfl) Hown3.out [.string qs] (by rfl) rfl (by simp [Value.oneCell']) (by unfold maxLen; omega) (by omega) w Hb3.out hs3 ?_; intro v8 w8 hown8 hb8)
        have Hown8 : Hid (w8.ownsRow w.heap.size 9 1 v8 (F (k + 1)).length ((F (k + 1)).map Value.string)) := by
          show World.ownsRow _ _ _ _ _ _ _
          rw [Hst2.out, List.map_append, List.length_append]; exact hown8
        have Hb8 := Lib.hid hb8
        clear hown8 hb8
        go_roundw
        case rel => exact ⟨k + 1, by omega, by go_num, Hown8, Hb8⟩
        case measure => simp [intOf]; omega
      · have hz : (qe == 0) = false := by simp [he]
        have Hst2 : Hid (F (k + 1) = F k) := by have := Hst.out; rw [if_neg he, List.append_nil] at this; exact this
        rw [← Hst2.out] at Hown3
        clear Hst he
        go_wp2_with fail
        go_roundw
        case rel => exact ⟨k + 1, by omega, by go_num, Hown3, Hb3⟩
        case measure => simp [intOf]; omega
    · obtain rfl : k = lists.length := by omega
      have hltI : ¬ (lists.length : Int) < (lists.length : Int) := by omega
      cases bad with
      | false =>
        have hres : res = F lists.length := by rw [HFe.out]; simp
        subst hres
        go_wp2_with fail
        go_ret
        exact ⟨_, rfl, hown.out, hbw.out⟩
      | true =>
        have Hres : Hid (res = F lists.length ++ [⟨#[110, 111, 32, 115, 101, 103, 109, 101, 110, 116]⟩]) := by show _ = _; rw [HFe.out]; rfl
        clear HFe
        go_wp2_with (at_builtin; refine wpList_push _ rfl _ _ 24 rfl w.heap.size 9 i1 _ 1 16 Try.underlying24 hi' hy0 hy1 hy2 rfl (by decide) _ (F lists.length).length _ (by rfl) hown.out [.string ⟨#[110, 111, 32, 115, 101, 103, 109, 101, 110, 116]⟩] (by rfl) rfl (by simp [Value.oneCell']) (by unfold maxLen; omega) (by omega) w hbw.out hsw ?_; intro v8 w8 hown8 hb8)
        have Hown8 : Hid (w8.ownsRow w.heap.size 9 1 v8 res.length (res.map Value.string)) := by
          show World.ownsRow _ _ _ _ _ _ _
          rw [Hres.out, List.map_append, List.length_append]; exact hown8
        have Hb8 := Lib.hid hb8
        clear hown8 hb8
        go_ret
        exact ⟨_, rfl, Hown8.out, Hb8.out⟩
end Go.Proofs.Ythdbmgjlegpbaaa
