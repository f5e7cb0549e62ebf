/- Joined texts. -/
import Derived.Test.YtcchekmejnhlmaaGreatK7
import Derived.Test.YtcchekmejnhlmaaGreatKEvPw
namespace Go.Proofs.YtcchekmejnhlmaaGreat
open Go.RowKit
set_option linter.unusedVariables false
namespace Ev
noncomputable section
abbrev PtA := Nat × Nat × Int × Int
def ptsA : List Sc → Option (List PtA)
  | [] => some []
  | .s l n :: .i .i64 t :: .i .i64 v :: r => (match ptsA r with | some ps => some ((l, n, t, v) :: ps) | none => none)
  | _ => none
def layA (H : HT) : List Sc → Option (List (List PtA))
  | [] => some []
  | x :: r => match slRd 3 x H with
    | some cs => (match ptsA cs, layA H r with | some p, some q => some (p :: q) | _, _ => none)
    | none => none
def hitA (l n : Nat) (t : Int) (p : PtA) : Bool := and (and (Nat.beq p.1 l) (Nat.beq p.2.1 n)) (eqF p.2.2.1 t)
def orO (x y : Option Int) : Option Int := match x with | some v => some v | none => y
def nwA (l n : Nat) (t : Int) (ps : List PtA) : Option Int := List.rec none (fun p _ ih => orO ih (cnd (hitA l n t p) (some p.2.2.2) none)) ps
def lsA (l n : Nat) (t : Int) (ls : List (List PtA)) : Option Int := List.rec none (fun y _ ih => orO ih (nwA l n t y)) ls
def PtOk (p : PtA) (q : Pt.Point) : Prop := q.1.data.toList.length = p.1 ∧ pk q.1.data.toList = p.2.1 ∧ q.2.1 = p.2.2.1 ∧ q.2.2 = p.2.2.2
theorem hitA_ok {l n : Nat} {t : Int} {s : ByteArray} (h1 : s.data.toList.length = l) (h2 : pk s.data.toList = n) {p : PtA} {q : Pt.Point} (h : PtOk p q) : hitA l n t p = Qr.hit s t q := by
  obtain ⟨a1, a2, a3, a4⟩ := h
  unfold hitA Qr.hit
  rw [eqF_eq, ← a3]
  have e1 : (and (Nat.beq p.1 l) (Nat.beq p.2.1 n)) = decide (q.1 = s) := by
    rw [← a1, ← a2, ← h1, ← h2]
    by_cases hq : q.1 = s
    · rw [hq]; simp
    · rw [decide_eq_false hq]
      cases hb : and (Nat.beq q.1.data.toList.length s.data.toList.length) (Nat.beq (pk q.1.data.toList) (pk s.data.toList)) with
      | false => rfl
      | true =>
        rw [Bool.and_eq_true] at hb
        exact absurd (Wr.ext_list (pk_inj _ _ (nbeq_eq hb.1) (nbeq_eq hb.2))) hq
  have e2 : (q.2.1 == t) = decide (q.2.1 = t) := by
    by_cases hq : q.2.1 = t
    · rw [hq]; simp
    · rw [decide_eq_false hq]; exact beq_eq_false_iff_ne.2 hq
  rw [e2]
  show ((and (Nat.beq p.1 l) (Nat.beq p.2.1 n)) && _) = _
  rw [e1]
theorem newest_cons (s : ByteArray) (t : Int) (q : Pt.Point) (qs : List Pt.Point) : Qr.newest s t (q :: qs) = orO (Qr.newest s t qs) (if Qr.hit s t q = true then some q.2.2 else none) := by
  unfold Qr.newest
  rw [List.reverse_cons, List.find?_append]
  cases h : qs.reverse.find? (Qr.hit s t) with
  | some y => simp [orO]
  | none =>
    simp only [Option.none_or, Option.map_none, orO, List.find?_cons, List.find?_nil]
    cases Qr.hit s t q <;> simp
theorem nwA_ok {l n : Nat} {t : Int} {s : ByteArray} (h1 : s.data.toList.length = l) (h2 : pk s.data.toList = n) {ps : List PtA} {qs : List Pt.Point} (h : All2 PtOk ps qs) : nwA l n t ps = Qr.newest s t qs := by
  induction h with
  | nil => rfl
  | cons a _ ih =>
    rename_i p q ps qs _
    rw [newest_cons, ← ih, ← hitA_ok h1 h2 a]
    show orO (nwA l n t ps) (cnd (hitA l n t p) (some p.2.2.2) none) = _
    rw [← a.2.2.2]
    cases hitA l n t p <;> rfl
theorem lastIn_cons (s : ByteArray) (t : Int) (y : List Pt.Point) (ys : List (List Pt.Point)) : Qr.lastIn s t (y :: ys) = orO (Qr.lastIn s t ys) (Qr.newest s t y) := by
  unfold Qr.lastIn
  rw [List.reverse_cons, List.findSome?_append]
  cases h : ys.reverse.findSome? (Qr.newest s t) with
  | some y => simp [orO]
  | none =>
    simp only [Option.none_or, orO, List.findSome?_cons, List.findSome?_nil]
    cases Qr.newest s t y <;> rfl
theorem lsA_ok {l n : Nat} {t : Int} {s : ByteArray} (h1 : s.data.toList.length = l) (h2 : pk s.data.toList = n) {ps : List (List PtA)} {qs : List (List Pt.Point)} (h : All2 (All2 PtOk) ps qs) : lsA l n t ps = Qr.lastIn s t qs := by
  induction h with
  | nil => rfl
  | cons a _ ih =>
    rename_i p q ps qs _
    rw [lastIn_cons, ← ih, ← nwA_ok h1 h2 a]
    rfl
theorem ptsA_ok {G : Gh} : ∀ {xs : List Sc} {vs : List Value} {ps : List PtA}, All2 (Sc.ok G) xs vs → ptsA xs = some ps → ∃ qs : List Pt.Point, vs = qs.flatMap pointCells ∧ All2 PtOk ps qs
  | _, _, ps, .nil, h => by
    have h : some [] = some ps := h
    cases h
    exact ⟨[], rfl, .nil⟩
  | _ :: _, _ :: _, ps, .cons (a := x) (b := v) hp hr, h => by
    unfold ptsA at h
    split at h
    · cases ‹_ :: _ = []›
    · rename_i l n t v' r heq
      cases heq
      cases hr with
      | cons b1 hr =>
      cases hr with
      | cons b2 hr =>
      split at h
      · rename_i ps' hps
        cases h
        obtain ⟨qs, rfl, hq⟩ := ptsA_ok hr hps
        obtain ⟨s, rfl, s1, s2⟩ := hp
        have b1 : _ = Value.int .i64 t := b1
        have b2 : _ = Value.int .i64 v' := b2
        subst b1
        subst b2
        exact ⟨(s, t, v') :: qs, rfl, .cons ⟨s1, s2, rfl, rfl⟩ hq⟩
      · cases h
    · cases h
theorem flat3 (qs : List Pt.Point) : (qs.flatMap pointCells).length = 3 * qs.length := by
  induction qs with
  | nil => rfl
  | cons q qs ih => rw [List.flatMap_cons, List.length_append, ih, List.length_cons]; show 3 + _ = _; omega
theorem layA_ok {G : Gh} {H : HT} {w : World} (hR : R G (hp H) w) : ∀ {xs : List Sc} {vs : List Value} {ls : List (List PtA)}, All2 (Sc.ok G) xs vs → layA H xs = some ls → (∀ y ∈ ls, y.length ≤ 1000000) → ∃ L : List Lay, vs = L.map layV ∧ (∀ y ∈ L, LayOk w y) ∧ All2 (All2 PtOk) ls (L.map (·.2.2))
  | _, _, ls, .nil, h, _ => by
    have h : some [] = some ls := h
    cases h
    exact ⟨[], rfl, fun y hy => (by cases hy), .nil⟩
  | _ :: _, _ :: _, ls, .cons (a := x) (b := v) hp hr, h, hlen => by
    unfold layA at h
    split at h
    · rename_i cs hcs
      split at h
      · rename_i p q hp1 hq
        cases h
        obtain ⟨A, n, cap, us, rfl, hall, hrd⟩ := slRd_ok hR hcs hp
        obtain ⟨qs, rfl, hqs⟩ := ptsA_ok hall hp1
        obtain ⟨L, rfl, h1, h2⟩ := layA_ok hR hr hq (fun y hy => hlen y (List.mem_cons_of_mem _ hy))
        have hn : n = qs.length := by
          have := hrd.1
          rw [flat3] at this; omega
        subst hn
        have hle : qs.length ≤ 1000000 := by
          have := hlen p (List.mem_cons_self ..)
          rw [hqs.length] at this
          exact this
        refine ⟨(A, cap, qs) :: L, rfl, fun y hy => ?_, .cons hqs h2⟩
        rcases List.mem_cons.1 hy with rfl | hy
        · exact ⟨hrd, by show qs.length ≤ _; omega⟩
        · exact h1 y hy
      · cases h
    · cases h
def lsLen (ls : List (List PtA)) : Bool := and (Nat.ble ls.length 1000000) (ls.all fun y => Nat.ble y.length 1000000)
def laysH (ar : Rs) : Option (List (List PtA)) := match ar with
  | .ok (.t [.c sl, .c (.b true)]) H n => (match slRd 1 sl H with | some xs => layA H xs | none => none)
  | _ => none
def lastV (l n : Nat) (t : Int) (ls : List (List PtA)) (H : HT) (k : Nat) : Rs :=
  cnd (lsLen ls) (.ok (.t [.c (.i .i64 ((lsA l n t ls).getD 0)), .c (.b (lsA l n t ls).isSome), .c (.i .i64 0)]) H k) .no
def lastR (l n : Nat) (t : Int) (ar : Rs) : Rs := match laysH ar with
  | some ls => Rs.rec Rs.no (fun _ H k => lastV l n t ls H k) ar
  | none => .no
def sLast (args : List V) (H : HT) (k : Nat) : Rs := match args with
  | [a, b, .c (.s l n), .c (.i .i64 t)] => lastR l n t (callB3 296 [a, b] H k)
  | _ => .no
theorem laysH_ok {v : V} {H : HT} {n : Nat} {ls : List (List PtA)} (h : laysH (.ok v H n) = some ls) : ∃ sl xs, v = .t [.c sl, .c (.b true)] ∧ slRd 1 sl H = some xs ∧ layA H xs = some ls := by
  unfold laysH at h
  split at h
  · rename_i sl H2 n2 heq
    cases heq
    split at h
    · rename_i xs hxs
      exact ⟨sl, xs, rfl, hxs, h⟩
    · cases h
  · cases h
set_option maxRecDepth 1000000 in
theorem sLast_ok : SumOk1 Tryz.prog 295 sLast := by
  intro args H k v H' k' h
  unfold sLast at h
  split at h
  · rename_i a b l n t
    unfold lastR at h
    cases har : callB3 296 [a, b] H k with
    | no => rw [har] at h; cases h
    | ok v1 H1 k1 =>
      rw [har] at h
      split at h
      · rename_i ls hls
        change lastV l n t ls H1 k1 = .ok v H' k' at h
        unfold lastV at h
        have q := cnd_ok h
        clear h
        obtain ⟨hlen, h⟩ := q
        unfold lsLen at hlen
        rw [Bool.and_eq_true] at hlen
        have hlen1 := ble_true hlen.1
        have hlen2 : ∀ y ∈ ls, y.length ≤ 1000000 := fun y hy => ble_true (List.all_eq_true.1 hlen.2 y hy)
        cases h
        obtain ⟨sl, xs, rfl, hxs, hlay⟩ := laysH_ok hls
        obtain ⟨_, hk, kc⟩ := callB3_ok _ _ _ _ _ _ _ har
        refine ⟨hk, fun G w cargs hR ha hf => ?_⟩
        obtain ⟨arr⟩ := cargs
        cases ha with
        | cons a1 ha =>
        cases ha with
        | cons a2 ha =>
        cases ha with
        | cons a3 ha =>
        cases ha with
        | cons a4 ha =>
        cases ha
        rename_i c1 c2 c3 c4
        obtain ⟨s, rfl, s1, s2⟩ := a3
        have a4 : c4 = Value.int .i64 t := a4
        subst a4
        refine (last_gen (fun w2 L => ∃ W G1, Below w.heap.size w W ∧ w.heap.size + 5 ≤ W.heap.size ∧ Stp G (hp H) k W G1 (hp H') k' w2 ∧ All2 (All2 PtOk) ls (L.map (·.2.2))) c1 c2 s t w ?_).mono ?_
        · intro W hb h5
          have hRW : R G (hp H) W := (stp_below (n := k) hR hb).r
          refine (kc G W #[c1, c2] hRW (.cons a1 (.cons a2 .nil)) hf).mono ?_
          rintro e w2 ⟨cv, G1, rfl, st, hv⟩
          obtain ⟨arr, rfl, hv⟩ := hv
          obtain ⟨arr⟩ := arr
          cases hv with
          | cons b1 hv =>
          cases hv with
          | cons b2 hv =>
          cases hv
          rename_i d1 d2
          have b2 : d2 = Value.bool true := b2
          subst b2
          obtain ⟨A, m, cap, vs, rfl, hall, hrd⟩ := slRd_ok st.r hxs b1
          obtain ⟨L, rfl, hL, hpt⟩ := layA_ok st.r hall hlay hlen2
          have hm : m = L.length := by
            have := hrd.1
            rw [List.length_map] at this; omega
          subst hm
          have hLl : L.length ≤ 1000000 := by
            have := hpt.length
            rw [List.length_map] at this; omega
          refine ⟨A, cap, L, rfl, st.fr.size, fun b hb1 hb2 => st.fr.block b hb2 ?_, hrd, hL, hLl, W, G1, hb, h5, st, hpt⟩
          rintro ⟨id, sz, h1, h2⟩
          have := hR.lt h1 h2
          omega
        · rintro e w' ⟨w2, L, ⟨W, G1, hb, h5, st, hpt⟩, hfr, rfl⟩
          have hls' := lsA_ok (t := t) s1 s2 hpt
          have hlt : ∀ b, Foot G (hp H) b → b < w.heap.size := by
            rintro b ⟨id, sz, h1, h2⟩
            exact hR.lt h1 h2
          have hft : ∀ b, Foot G1 (hp H') b → ¬ B3 w.heap.size b := by
            intro b hb1 hb3
            unfold B3 at hb3
            rcases st.ft b hb1 with q | q
            · have := hlt b q; omega
            · omega
          refine ⟨_, G1, rfl, ⟨st.ext, st.r.fr hfr hft, ?_, fun b hb1 => ?_⟩, ⟨_, rfl, .cons ?_ (.cons ?_ (.cons rfl .nil))⟩⟩
          · refine ((fr_b3 (S := Foot G (hp H)) hb).trans st.fr ?_).trans hfr ?_
            · intro j _ q; exact q
            · intro j hj q
              unfold B3 at q
              omega
          · rcases st.ft b hb1 with q | q
            · exact .inl q
            · exact .inr (Nat.le_trans hb.size q)
          · show Value.int .i64 _ = Value.int .i64 _
            rw [hls']
          · show Value.bool _ = Value.bool _
            rw [hls']
      · cases h
  · cases h
set_option maxRecDepth 100000
def S4 : SumT := addS 295 sLast S3
theorem S4_ok : SumOk Tryz.prog S4 := addS_ok ⟨_, Tryz.func295, by kernel_rfl, by kernel_rfl⟩ sLast_ok S3_ok
def callB4 : CallT := callK kt S4 100
theorem callB4_ok : CallOk Tryz.prog callB4 := calls_made S4_ok 100
end
end Ev
end Go.Proofs.YtcchekmejnhlmaaGreat
