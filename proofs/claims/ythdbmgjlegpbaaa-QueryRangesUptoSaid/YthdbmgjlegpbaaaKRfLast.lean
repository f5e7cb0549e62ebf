/- The walks through the reference's newest and Last. -/
import Derived.Test.YthdbmgjlegpbaaaKRfAll
import Derived.Test.YthdbmgjlegpbaaaK2
import Derived.BigQuiet
namespace Go.Proofs.Ythdbmgjlegpbaaa
open Go.RowKit
set_option linter.unusedVariables false

theorem newest_snoc (s : ByteArray) (t : Int) (ps : List Pt.Point) (k : Nat) (hk : k < ps.length) : Qr.newest s t (ps.take (k + 1)) = if Qr.hit s t ps[k] = true then some ps[k].2.2 else Qr.newest s t (ps.take k) := by
  unfold Qr.newest
  rw [List.take_succ_eq_append_getElem hk, List.reverse_append, List.reverse_singleton, List.singleton_append, List.find?_cons]
  cases Qr.hit s t ps[k] <;> simp
theorem strq_ne {a b : ByteArray} (h : a ≠ b) : (a.toList == b.toList) = false := by
  rw [beq_eq_false_iff_ne]; exact fun e => h (by rw [Lib.toList_data, Lib.toList_data] at e; exact ByteArray.ext (Array.ext' e))
set_option maxRecDepth 100000 in
set_option maxHeartbeats 2000000 in
theorem rnewest_any (A : Option Addr) (c : Nat) (ps : List Pt.Point) (s : ByteArray) (t : Int) (w : World) (B : Nat) (hr : Reads w B 3 A ps.length (ps.flatMap pointCells)) (hn : ps.length ≤ 140737488355328) :
    Calls Try.prog 53 #[.slice A ps.length c, .string s, .int .i64 t] w fun e w' => e = .returned (.tuple #[.int .i64 ((Qr.newest s t ps).getD 0), .bool (Qr.newest s t ps).isSome]) ∧ ∃ n, w' = w.drewN n := by
  have HS := Lib.hid (newest_snoc s t ps)
  have H0 : Hid (Qr.newest s t (ps.take 0) = none) := rfl
  have HE : Hid (Qr.newest s t (ps.take ps.length) = Qr.newest s t ps) := by show _ = _; rw [List.take_length]
  obtain ⟨F, hF⟩ : ∃ F : Nat → Option Int, ∀ k, F k = Qr.newest s t (ps.take k) := ⟨fun k => Qr.newest s t (ps.take k), fun _ => rfl⟩
  simp only [← hF] at HS H0 HE
  generalize Qr.newest s t ps = res at *
  have HR := Lib.hid hr
  clear hr hF
  go_enter Try.func53, Try.ntmps53
  go_wp2
  go_loopw [8] (fun i wr => ∃ k n : Nat, k ≤ ps.length ∧ i = .int .i64 ((k : Int) - 1) ∧ wr = w.drewN n ∧ Hid (F k = res)) (fun i _ => (intOf i + 1).toNat)
  case atStart => exact ⟨ps.length, 0, Nat.le_refl _, by go_num, rfl, HE⟩
  case round =>
    obtain ⟨k, n, hk, rfl, rfl, hf⟩ := hrel
    by_cases hlt : 0 < k
    · obtain ⟨j, rfl⟩ : ∃ j, k = j + 1 := ⟨k - 1, by omega⟩
      have hjl : j < ps.length := by omega
      obtain ⟨b, off, rfl, hbl, hc⟩ := HR.out.2 (by omega)
      have hcp := pt_cells (wr := w.drewN n) hjl hc (fun p _ => rfl) hbl
      have hst := HS.out j hjl
      rw [hf.out] at hst
      obtain ⟨q, hq⟩ : ∃ q, ps[j] = q := ⟨_, rfl⟩
      rw [hq] at hcp hst
      clear hq hc hf
      obtain ⟨qn, qt, qv⟩ := q
      dsimp only at hcp hst
      obtain ⟨q0, q1, q2⟩ := hcp
      have hcast : ((j + 1 : Nat) : Int) - 1 = (j : Int) := by omega
      rw [hcast]
      have hj0 : (0 : Int) ≤ (j : Int) := by omega
      have hj1 : (j : Int) < (ps.length : Int) := by omega
      clear hcast
      have hways : (qn = s ∧ qt = t ∧ Qr.hit s t (qn, qt, qv) = true) ∨ ((qn.toList == s.toList) = false ∧ Qr.hit s t (qn, qt, qv) = false) ∨ ((qn.toList == s.toList) = true ∧ (qt == t) = false ∧ Qr.hit s t (qn, qt, qv) = false) := by
        unfold Qr.hit
        by_cases h1 : qn = s
        · by_cases h2 : qt = t
          · exact .inl ⟨h1, h2, by simp [h1, h2]⟩
          · exact .inr (.inr ⟨by rw [h1]; exact beq_self_eq_true _, by simp [h2], by simp [h2]⟩)
        · exact .inr (.inl ⟨strq_ne h1, by simp [h1]⟩)
      rcases hways with ⟨rfl, rfl, hh⟩ | ⟨hw0, hh⟩ | ⟨hw0, hw1, hh⟩
      · rw [hh, if_pos rfl] at hst
        subst hst
        clear hh
        go_wp2
        go_ret2
        exact ⟨rfl, _, rfl⟩
      · rw [hh, if_neg (by decide)] at hst
        have Hst : Hid (F j = res) := hst.symm
        clear hst hh
        go_wp2
        go_roundw
        case rel => exact ⟨j, n, by omega, by go_num, rfl, Hst⟩
        case measure => simp [intOf]
      · rw [hh, if_neg (by decide)] at hst
        have Hst : Hid (F j = res) := hst.symm
        clear hst hh
        go_wp2
        go_roundw
        case rel => exact ⟨j, n, by omega, by go_num, rfl, Hst⟩
        case measure => simp [intOf]
    · obtain rfl : k = 0 := by omega
      have hz : ((0 : Nat) : Int) - 1 = -1 := by omega
      rw [hz]
      have hr0 : res = none := by rw [← hf.out]; exact H0.out
      subst hr0
      clear hz
      go_wp2
      go_ret2
      exact ⟨rfl, _, rfl⟩
theorem lastIn_snoc (s : ByteArray) (t : Int) (l : List (List Pt.Point)) (p : List Pt.Point) : Qr.lastIn s t (l ++ [p]) = match Qr.newest s t p with | some v => some v | none => Qr.lastIn s t l := by
  unfold Qr.lastIn
  rw [List.reverse_append, List.reverse_singleton, List.singleton_append, List.findSome?_cons]
  cases Qr.newest s t p <;> rfl
set_option maxRecDepth 100000 in
set_option maxHeartbeats 2000000 in
theorem rlast_any (A A' : Option Addr) (c c' : Nat) (segs : List ByteArray) (o : List Pt.Point) (s : ByteArray) (t : Int) (w : World) (B : Nat) (hr : Reads w B 1 A segs.length (segs.map Value.string)) (hro : Reads w B 3 A' o.length (o.flatMap pointCells)) (hB : B ≤ w.heap.size) (hn : segs.length * 24 ≤ 140737488355328) (hss : ∀ s ∈ segs, s.size ≤ 140737488355328) (hon : o.length ≤ 140737488355328) (hpl : ∀ s ∈ segs, (Qr.ptsOf s).length ≤ 140737488355328) :
    Calls Try.prog 25 #[.slice A segs.length c, .slice A' o.length c', .string s, .int .i64 t] w fun e w' => e = .returned (.tuple #[.int .i64 (Qr.lastR segs o s t).1, .bool (Qr.lastR segs o s t).2.1, .int .i64 (Qr.lastR segs o s t).2.2]) ∧ Below w.heap.size w w' := by
  have HA := Lib.hid (rall_any A c segs w B hr hB hn hss)
  have HO := fun W (h : Below w.heap.size w W) => Lib.hid (rnewest_any A' c' o s t W B (hro.below (h.mono hB)) hon)
  have HR1 : Hid (Qr.okS segs = true → Qr.lastR segs o s t = ((Qr.lastIn s t (segs.map Qr.ptsOf ++ [o])).getD 0, (Qr.lastIn s t (segs.map Qr.ptsOf ++ [o])).isSome, 0)) := fun h => by unfold Qr.lastR; rw [if_pos h]
  have HR2 : Hid (Qr.okS segs = false → Qr.lastR segs o s t = (0, false, 1500)) := fun h => by unfold Qr.lastR; rw [if_neg (by rw [h]; simp)]
  have HSn := Lib.hid (fun l => lastIn_snoc s t l o)
  have HSm := Lib.hid (lastIn_snoc s t)
  have HPl := Lib.hid hpl
  generalize Qr.lastR segs o s t = res at *
  clear hr hro hss hpl
  generalize Qr.newest s t o = no at *
  go_enter Try.func25, Try.ntmps25
  go_wp2_with fail
  refine HA.out.mono ?_
  rintro e w1 ⟨hb1, hcase⟩
  have Hb1 := Lib.hid hb1
  have hs1 := hb1.size
  rcases hcase with ⟨hno, rfl⟩ | ⟨hok, v1, L, rfl, hown1, hlays, hLm, hLl⟩
  · have hr := HR2.out hno
    subst hr
    clear HR1 HR2 HSn HSm hno HA
    go_wp2_with fail
    go_ret3
    exact ⟨rfl, Hb1.out⟩
  · have hr := HR1.out hok
    rw [HSn.out] at hr
    have Hr := Lib.hid hr
    have HO1 := HO w1 hb1
    obtain ⟨A1, c1, rfl, _, hr1⟩ := own_slice hown1
    have HNk : Hid (∀ k y, L[k]? = some y → ∀ W, Below w1.heap.size w1 W → W.cell? ⟨(A1.map Addr.block).getD 0, 0, none⟩ = W.cell? ⟨(A1.map Addr.block).getD 0, 0, none⟩ ∧ Calls Try.prog 53 #[layV y, .string s, .int .i64 t] W fun e w' => e = .returned (.tuple #[.int .i64 ((Qr.newest s t y.2.2).getD 0), .bool (Qr.newest s t y.2.2).isSome]) ∧ ∃ n, w' = W.drewN n) := fun k y hk W hW => by
      have hm : y ∈ L := List.mem_of_getElem? hk
      have hmp : y.2.2 ∈ segs.map Qr.ptsOf := by rw [← hLm]; exact List.mem_map.2 ⟨y, hm, rfl⟩
      obtain ⟨sg, hsg, he⟩ := List.mem_map.1 hmp
      have hlen := HPl.out sg hsg
      rw [he] at hlen
      refine ⟨rfl, ?_⟩
      obtain ⟨ya, yc, ps⟩ := y
      exact rnewest_any ya yc ps s t W w1.heap.size ((Reads.of_own (hlays _ hm)).below hW) hlen
    have HFs : Hid (∀ k y, L[k]? = some y → Qr.lastIn s t ((L.take (k + 1)).map (·.2.2)) = match Qr.newest s t y.2.2 with | some v => some v | none => Qr.lastIn s t ((L.take k).map (·.2.2))) := fun k y hk => by
      obtain ⟨h, rfl⟩ := List.getElem?_eq_some_iff.1 hk
      rw [List.take_succ_eq_append_getElem h, List.map_append, List.map_singleton, HSm.out]
    have HF0 : Hid (Qr.lastIn s t ((L.take 0).map (·.2.2)) = none) := rfl
    have HFe : Hid (Qr.lastIn s t ((L.take L.length).map (·.2.2)) = Qr.lastIn s t (segs.map Qr.ptsOf)) := by show _ = _; rw [List.take_length, hLm]
    obtain ⟨F, hF⟩ : ∃ F : Nat → Option Int, ∀ k, F k = Qr.lastIn s t ((L.take k).map (·.2.2)) := ⟨fun k => Qr.lastIn s t ((L.take k).map (·.2.2)), fun _ => rfl⟩
    simp only [← hF] at HFs HF0 HFe
    rw [← HFe.out] at Hr
    have Hr1 := Lib.hid hr1
    rw [← hLl] at Hr1 hn ⊢
    clear HR1 HR2 HSn HSm hok hr HA HO hlays hLm hb1 hown1 hr1 HFe hF HPl hLl
    go_wp2_with fail
    refine HO1.out.mono ?_
    rintro e w2 ⟨rfl, n2, rfl⟩
    have Hb2 : Hid (Below w1.heap.size w1 (w1.drewN n2)) := below_drewN (Below.refl _ _) n2
    clear HO1
    generalize w1.drewN n2 = w2 at *
    go_wp2_with fail
    go_loopw [13, 14, 15] (fun v b i wr => ∃ (k : Nat) (r : Option Int), k ≤ L.length ∧ i = .int .i64 ((k : Int) - 1) ∧ v = .int .i64 (r.getD 0) ∧ b = .bool r.isSome ∧ Hid ((match no with | some v => some v | none => F L.length) = (match r with | some v => some v | none => F k)) ∧ Hid (Below w1.heap.size w1 wr)) (fun _ _ i _ => (intOf i + 1).toNat)
    case atStart => exact ⟨L.length, no, Nat.le_refl _, by go_num, rfl, rfl, Lib.hid rfl, Hb2⟩
    case round =>
      obtain ⟨k, r, hk, rfl, rfl, rfl, hf, hbw⟩ := hrel
      cases r with
      | some v =>
        have hres := Hr.out
        rw [hf.out] at hres
        subst hres
        clear hf Hr
        by_cases hlt : 0 < k
        · have h0 : (0 : Int) ≤ (k : Int) - 1 := by omega
          go_wp2_with fail
          go_ret3
          exact ⟨rfl, Hb1.out.trans (hbw.out.mono hs1)⟩
        · have h0 : ¬ (0 : Int) ≤ (k : Int) - 1 := by omega
          go_wp2_with fail
          go_ret3
          exact ⟨rfl, Hb1.out.trans (hbw.out.mono hs1)⟩
      | none =>
        by_cases hlt : 0 < k
        · obtain ⟨j, rfl⟩ : ∃ j, k = j + 1 := ⟨k - 1, by omega⟩
          have hcast : ((j + 1 : Nat) : Int) - 1 = (j : Int) := by omega
          rw [hcast]
          have hjl : j < L.length := by omega
          have hj0 : (0 : Int) ≤ (j : Int) := by omega
          have hj1 : (j : Int) < (L.length : Int) := by omega
          obtain ⟨y, hy⟩ : ∃ y, L[j]? = some y := ⟨_, List.getElem?_eq_getElem hjl⟩
          obtain ⟨b, off, rfl, hbl, hc⟩ := Hr1.out.2 (by omega)
          have hcy : wr.cell? ⟨b, off + j, none⟩ = some (layV y) := (hbw.out.cell (p := ⟨b, off + j, none⟩) hbl).trans (hc j _ (by rw [List.getElem?_map, hy]; rfl))
          have HX := Lib.hid (HNk.out j y hy wr hbw.out).2
          have hfs := HFs.out j y hy
          have hf' := hf.out
          dsimp only at hf'
          rw [hfs] at hf'
          have Hf := Lib.hid hf'
          clear hcast hc hfs hf' hf hy
          generalize Qr.newest s t y.2.2 = r2 at *
          obtain ⟨ya, yc, ps⟩ := y
          unfold layV at hcy HX
          dsimp only at hcy HX
          go_wp2_with fail
          refine HX.out.mono ?_
          rintro e w3 ⟨rfl, n3, rfl⟩
          have Hb3 : Hid (Below w1.heap.size w1 (wr.drewN n3)) := below_drewN hbw.out n3
          clear HX
          go_wp2_with fail
          go_roundw
          case rel => exact ⟨j, r2, by omega, by go_num, rfl, rfl, Hf, Hb3⟩
          case measure => simp [intOf]
        · obtain rfl : k = 0 := by omega
          have hz : ((0 : Nat) : Int) - 1 = -1 := by omega
          rw [hz]
          have hres := Hr.out
          rw [hf.out] at hres
          dsimp only at hres
          rw [HF0.out] at hres
          subst hres
          clear hf Hr hz
          go_wp2_with fail
          go_ret3
          exact ⟨rfl, Hb1.out.trans (hbw.out.mono hs1)⟩
end Go.Proofs.Ythdbmgjlegpbaaa
