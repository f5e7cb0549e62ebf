/- Joined texts. -/
import Derived.Test.YtcchekmejnhlmaaGreatKEvT
import Derived.KernelRfl
namespace Go.Proofs.YtcchekmejnhlmaaGreat
namespace Ev
open Go.RowKit
noncomputable section
set_option linter.unusedVariables false
def fldsN (k : Nat) : List Nat := [[6, 7, 12], [6, 7, 8, 2], [7, 9, 11, 2, 10], [7, 8, 2, 4], [0, 2, 3, 5, 6, 7, 12], [0, 2], [0, 2, 3], [0], [0, 1, 3, 13], [0, 3, 13], [0, 2], [0, 3, 13], [0, 4], [0, 4], [2], [2], [2, 14]].getD k []
theorem flds_N : ∀ k, k < 17 → Mg.flds k = (fldsN k).map Int.ofNat := by decide
def natsB : List Sc → List Nat → Bool
  | [], [] => true
  | .i .i64 (.ofNat x) :: xs, n :: ns => and (Nat.beq x n) (natsB xs ns)
  | _, _ => false
def fldR (ns : List Nat) (H : HT) (l : List E) : Bool := match l with
  | [.c (.sk id off len cap es), .c (.b true)] => and (and (Nat.beq off 0) (and (Nat.beq len ns.length) (Nat.beq cap ns.length))) (match slRd 1 (.sk id off len cap es) H with | some xs => natsB xs ns | none => false)
  | _ => false
def fldC (ns : List Nat) (r : Rs) : Bool := match r with
  | .ok (.t l) H _ => fldR ns H l
  | _ => false
def fldK (k : Nat) : Bool := fldC (fldsN k) (callK kt noSum 20 81 [.c (.i .i64 (.ofNat k))] .z 0)
set_option maxRecDepth 100000 in
theorem fldK_all : ((List.range 17).all fldK) = true := by kernel_rfl
theorem natsB_ok {G : Gh} : ∀ {xs : List Sc} {ns : List Nat} {vs : List Value}, All2 (Sc.ok G) xs vs → natsB xs ns = true → vs = (ns.map Int.ofNat).map (Value.int .i64)
  | [], [], _, h, _ => by cases h; rfl
  | x :: xs, [], _, h, hb => by
    unfold natsB at hb
    split at hb
    · cases ‹_ :: _ = []›
    · cases ‹[] = _ :: _›
    · cases hb
  | [], n :: ns, _, h, hb => by cases hb
  | x :: xs, n :: ns, _, .cons (b := v) (m := vs) h1 h2, hb => by
    unfold natsB at hb
    split at hb
    · rename_i e _; cases e
    · rename_i x' xs' n' ns' e1 e2
      cases e1
      cases e2
      rw [Bool.and_eq_true] at hb
      rw [natsB_ok h2 hb.2, ← nbeq_eq hb.1]
      have h1 : v = .int .i64 (.ofNat x') := h1
      rw [h1]; rfl
    · cases hb
theorem fields_gen (k : Nat) (hk : k < 17) (W : World) : Calls Tryz.prog 81 #[.int .i64 (k : Int)] W (FieldsPost W (Mg.flds k)) := by
  have hb := List.all_eq_true.1 fldK_all k (List.mem_range.2 hk)
  unfold fldK fldC at hb
  split at hb
  · rename_i l H n hc
    obtain ⟨_, _, hcall⟩ := calls_made noSum_ok 20 _ _ _ _ _ _ _ hc
    refine (hcall (fun _ => none) W #[.int .i64 (k : Int)] (R_z _ _) (.cons rfl .nil) (fun _ _ _ => rfl)).mono ?_
    rintro e w' ⟨cv, G', rfl, s, hv⟩
    obtain ⟨⟨arr⟩, rfl, ha⟩ := hv
    unfold fldR at hb
    split at hb
    · rename_i id off len cap es
      rw [Bool.and_eq_true, Bool.and_eq_true, Bool.and_eq_true] at hb
      obtain ⟨⟨b1, b2, b3⟩, b4⟩ := hb
      have b1 := nbeq_eq b1
      have b2 := nbeq_eq b2
      have b3 := nbeq_eq b3
      subst b1
      split at b4
      · rename_i xs hxs
        cases ha with
        | cons a1 ha =>
        cases ha with
        | cons a2 ha =>
        cases ha
        obtain ⟨b, sz, g1, g2, _⟩ : ∃ b sz, G' id = some (b, sz) ∧ _ = Value.slice (some ⟨b, 0, none⟩) len cap ∧ _ := a1
        have a2 : _ = Value.bool true := a2
        obtain ⟨q1, q2⟩ := cond_some hxs
        obtain ⟨vs, k1, k2⟩ := slRd_row s.r (blt_true q1) g1 q2
        have hvs := natsB_ok k1 b4
        rw [g2, a2, b2, b3]
        refine ⟨b, ?_, ?_, ⟨s.fr.os, s.fr.tape, s.fr.output, s.fr.size, fun j hj => s.fr.block j hj foot_z⟩⟩
        · rw [flds_N k hk, List.length_map]
        · rw [flds_N k hk, List.length_map, ← hvs, ← b2]; exact k2
      · cases b4
    · cases hb
  · cases hb
def memN (j : Nat) : List Nat → Bool
  | [] => false
  | x :: xs => cnd (Nat.beq x j) true (memN j xs)
theorem memN_iff {j : Nat} : ∀ {l : List Nat}, memN j l = true ↔ j ∈ l
  | [] => by simp [memN]
  | x :: xs => by
    unfold memN
    cases hb : Nat.beq x j with
    | true => simp [nbeq_eq hb]
    | false =>
      have := Nat.ne_of_beq_eq_false hb
      simp only [cnd_false, List.mem_cons, memN_iff (l := xs)]
      exact ⟨.inr, fun q => q.resolve_left fun e => this e.symm⟩
theorem memN_flds {k j : Nat} (hk : k < 17) : memN j (fldsN k) = true ↔ (j : Int) ∈ Mg.flds k := by
  rw [memN_iff, flds_N k hk, List.mem_map]
  constructor
  · intro h; exact ⟨j, h, rfl⟩
  · rintro ⟨i, hi, e⟩
    have : i = j := by have e : (i : Int) = (j : Int) := e; omega
    rw [← this]; exact hi
def zI (x : Int) : Bool := Int.rec (fun n => Nat.beq n 0) (fun _ => false) x
def cliB (x : Int) : Bool := Int.rec (fun n => and (Nat.ble 100 n) (Nat.blt n 108)) (fun _ => false) x
def nodB (x : Int) : Bool := Int.rec (fun n => Nat.blt n 7) (fun _ => false) x
def numJ (x : Int) : Bool := Int.rec (fun n => Nat.ble n 2147483647) (fun n => Nat.beq n 0) x
def codI (x : Int) : Bool := Int.rec (fun n => Nat.ble n 9) (fun _ => false) x
def aggI (x : Int) : Bool := Int.rec (fun n => Nat.ble n 4) (fun _ => false) x
theorem zI_ok {x : Int} (h : zI x = true) : x = 0 := by
  cases x with
  | ofNat n => have := nbeq_eq (x := n) (y := 0) h; rw [this]; rfl
  | negSucc n => cases h
theorem cliB_ok {x : Int} (h : cliB x = true) : 100 ≤ x ∧ x < 108 := by
  cases x with
  | ofNat n =>
    have h : and (Nat.ble 100 n) (Nat.blt n 108) = true := h
    rw [Bool.and_eq_true] at h
    have h1 := ble_true h.1
    have h2 := blt_true h.2
    rw [Int.ofNat_eq_natCast]; omega
  | negSucc n => cases h
theorem nodB_ok {x : Int} (h : nodB x = true) : 0 ≤ x ∧ x < 7 := by
  cases x with
  | ofNat n => have := blt_true (a := n) (b := 7) h; rw [Int.ofNat_eq_natCast]; omega
  | negSucc n => cases h
theorem numJ_ok {x : Int} (h : numJ x = true) : -1 ≤ x ∧ x ≤ 2147483647 := by
  cases x with
  | ofNat n => have := ble_true (a := n) (b := 2147483647) h; rw [Int.ofNat_eq_natCast]; omega
  | negSucc n => have := nbeq_eq (x := n) (y := 0) h; rw [this]; decide
theorem codI_ok {x : Int} (h : codI x = true) : 0 ≤ x ∧ x ≤ 9 := by
  cases x with
  | ofNat n => have := ble_true (a := n) (b := 9) h; rw [Int.ofNat_eq_natCast]; omega
  | negSucc n => cases h
theorem aggI_ok {x : Int} (h : aggI x = true) : 0 ≤ x ∧ x ≤ 4 := by
  cases x with
  | ofNat n => have := ble_true (a := n) (b := 4) h; rw [Int.ofNat_eq_natCast]; omega
  | negSucc n => cases h
def fldT (k j : Nat) : Int → Bool := cnd (memN j (fldsN k)) (cnd (Nat.beq j 8) codI (cnd (Nat.beq j 9) aggI (cnd (and (Nat.beq k 1) (Nat.beq j 2)) numJ (cnd (and (or (Nat.beq k 2) (Nat.beq k 3)) (or (Nat.beq j 2) (Nat.beq j 10))) smI numI)))) zI
theorem high_pos (j : Nat) : 0 ≤ Tp.high j := by unfold Tp.high; split <;> decide
theorem low_neg (k j : Nat) : Mg.low k j ≤ 0 := by unfold Mg.low; split <;> (try split) <;> decide
theorem fldT_ok {k j : Nat} (hk : k < 17) {x : Int} (h : fldT k j x = true) : ((j : Int) ∉ Mg.flds k → x = 0) ∧ Mg.low k j ≤ x ∧ x ≤ Tp.high j := by
  unfold fldT at h
  cases hm : memN j (fldsN k) with
  | false =>
    rw [hm] at h
    have h0 := zI_ok h
    subst h0
    exact ⟨fun _ => rfl, low_neg k j, high_pos j⟩
  | true =>
    rw [hm] at h
    refine ⟨fun q => absurd ((memN_flds hk).1 hm) q, ?_⟩
    simp only [cnd_true] at h
    cases h8 : Nat.beq j 8 with
    | true =>
      rw [h8] at h
      have e := nbeq_eq h8
      subst e
      have := codI_ok h
      have l := low_neg k 8
      exact ⟨by omega, this.2⟩
    | false =>
      rw [h8] at h
      simp only [cnd_false] at h
      cases h9 : Nat.beq j 9 with
      | true =>
        rw [h9] at h
        have e := nbeq_eq h9
        subst e
        have := aggI_ok h
        have l := low_neg k 9
        exact ⟨by omega, this.2⟩
      | false =>
        rw [h9] at h
        simp only [cnd_false] at h
        rw [Tp.high_at j (Nat.ne_of_beq_eq_false h8) (Nat.ne_of_beq_eq_false h9)]
        cases hr : and (Nat.beq k 1) (Nat.beq j 2) with
        | true =>
          rw [hr] at h
          rw [Bool.and_eq_true] at hr
          have e1 := nbeq_eq hr.1
          have e2 := nbeq_eq hr.2
          subst e1
          subst e2
          exact numJ_ok h
        | false =>
          rw [hr] at h
          simp only [cnd_false] at h
          cases hs : and (or (Nat.beq k 2) (Nat.beq k 3)) (or (Nat.beq j 2) (Nat.beq j 10)) with
          | true =>
            rw [hs] at h
            have := smI_ok h
            refine ⟨?_, this.2⟩
            unfold Mg.low
            split
            · rename_i q
              rw [Bool.and_eq_false_iff] at hr
              rcases hr with hr | hr
              · exact absurd q.1 (Nat.ne_of_beq_eq_false hr)
              · exact absurd q.2 (Nat.ne_of_beq_eq_false hr)
            · rw [Bool.and_eq_true, Bool.or_eq_true, Bool.or_eq_true] at hs
              rw [if_pos ⟨hs.1.imp nbeq_eq nbeq_eq, hs.2.imp nbeq_eq nbeq_eq⟩]
              exact this.1
          | false =>
            rw [hs] at h
            have := numI_ok h
            have l := low_neg k j
            exact ⟨by omega, this.2⟩
def fldL (k : Nat) : Nat → List Sc → Bool
  | j, [] => Nat.beq j 11
  | j, .i .i64 x :: xs => and (fldT k j x) (fldL k (Nat.add j 1) xs)
  | _, _ => false
theorem fldL_ok {G : Gh} {k : Nat} : ∀ {xs : List Sc} {vs : List Value} {j : Nat}, All2 (Sc.ok G) xs vs → fldL k j xs = true → ∃ ns : List Int, vs = ns.map (Value.int .i64) ∧ ns.length + j = 11 ∧ ∀ i (h : i < ns.length), fldT k (j + i) ns[i] = true
  | [], _, j, .nil, h => ⟨[], rfl, by have := nbeq_eq (x := j) (y := 11) h; simp; exact this, fun i h => by simp at h⟩
  | x :: xs, _, j, .cons (b := v) (m := vs) h1 h2, h => by
    have bad : fldL k j (x :: xs) = false → ∃ ns : List Int, v :: vs = ns.map (Value.int .i64) ∧ ns.length + j = 11 ∧ ∀ i (h : i < ns.length), fldT k (j + i) ns[i] = true := fun q => by rw [q] at h; cases h
    cases x with
    | i kk x' =>
      cases kk with
      | i64 =>
        have h : and (fldT k j x') (fldL k (Nat.add j 1) xs) = true := h
        rw [Bool.and_eq_true] at h
        obtain ⟨ns, k1, k2, k3⟩ := fldL_ok h2 h.2
        have h1 : v = .int .i64 x' := h1
        refine ⟨x' :: ns, by rw [k1, h1]; rfl, by have k2 : ns.length + (j + 1) = 11 := k2; simp; omega, fun i hi => ?_⟩
        cases i with
        | zero => exact h.1
        | succ i =>
          have hi' : i < ns.length := by simpa using hi
          have := k3 i hi'
          show fldT k (j + (i + 1)) ns[i] = true
          rw [show j + (i + 1) = Nat.add j 1 + i from by show _ = j + 1 + i; omega]
          exact this
      | _ => exact bad rfl
    | _ => exact bad rfl
def nilO (x : Option (List Sc)) : Bool := match x with | some [] => true | _ => false
def mgS (k l m : Nat) : Bool := cnd (memN 11 (fldsN k)) (and (Nat.ble 1 l) (and (Nat.ble l 12) (nmB l m))) (Nat.beq l 0)
def mgBt (k : Nat) (x : Option (List Sc)) : Bool := match x with
  | some xs => and (btB xs) (or (memN 12 (fldsN k)) (nilL xs))
  | none => false
def mgR (k : Nat) (xs : List Sc) (H : HT) : Bool := match xs with
  | [.s l m, b, .i .i64 (.ofNat base), .s l2 m2, e, .s l3 m3] => and (and (mgS k l m) (mgBt k (slRd 3 b H))) (and (and (lgB base l2 (slRd 5 e H) H) (or (memN 13 (fldsN k)) (and (Nat.beq base 0) (nilO (slRd 5 e H))))) (and (Nat.ble l3 65536) (or (memN 14 (fldsN k)) (Nat.beq l3 0))))
  | _ => false
def mgF (k : Nat) : Int → Bool := cnd (or (Nat.beq k 0) (Nat.beq k 2)) cliB nodB
def mgT (k : Nat) : Int → Bool := cnd (or (Nat.beq k 1) (Nat.beq k 3)) cliB nodB
def mgB (xs : List Sc) (H : HT) : Bool := match xs with
  | .i .i64 (.ofNat k) :: .i .i64 fr :: .i .i64 to :: r => and (and (Nat.blt k 17) (and (mgF k fr) (mgT k to))) (and (fldL k 0 (r.take 11)) (mgR k (r.drop 11) H))
  | _ => false
theorem who_ok {c d : Bool} (h : c = d) {x : Int} (hx : cnd c cliB nodB x = true) : Tp.whoOk d x := by
  subst h
  cases c with
  | true => exact cliB_ok hx
  | false => exact nodB_ok hx
theorem beqN (a b : Nat) : Nat.beq a b = decide (a = b) := by
  cases h : Nat.beq a b with
  | true => exact (decide_eq_true (nbeq_eq h)).symm
  | false => exact (decide_eq_false (Nat.ne_of_beq_eq_false h)).symm
theorem eleven_of (ns : List Int) (h : ns.length = 11) : ∃ a b c d e f g h' i j k, ns = [a, b, c, d, e, f, g, h', i, j, k] := by
  match ns, h with
  | [a, b, c, d, e, f, g, h', i, j, k], _ => exact ⟨a, b, c, d, e, f, g, h', i, j, k, rfl⟩
def sMayG (args : List V) (H : HT) (n : Nat) : Rs := match args with
  | [.a xs] => cnd (mgB xs H) (.ok (.c (.b true)) H n) .no
  | _ => .no
theorem str_size {s : ByteArray} {l : Nat} (h : s.data.toList.length = l) : s.size = l := by rw [← h]; exact (Array.length_toList (xs := s.data)).symm
theorem str_empty {s : ByteArray} (h : s.data.toList.length = 0) : s = ⟨#[]⟩ := by
  obtain ⟨⟨l⟩⟩ := s
  have : l = [] := List.eq_nil_of_length_eq_zero h
  rw [this]
set_option maxHeartbeats 1000000 in
theorem sMayG_ok : SumOk1 Tryz.prog 46 sMayG := by
  intro args H n v H' n' h
  unfold sMayG at h
  split at h
  · rename_i xs
    have q := cnd_ok h
    clear h
    obtain ⟨hb, h⟩ := q
    cases h
    refine ⟨Nat.le_refl _, fun G w cargs hR ha hf => ?_⟩
    obtain ⟨c, rfl, ⟨arr⟩, rfl, hc⟩ := cargs1 ha
    unfold mgB at hb
    split at hb
    · rename_i k fr to r
      cases hc with
      | cons c1 hc =>
      cases hc with
      | cons c2 hc =>
      cases hc with
      | cons c3 hc =>
      rename_i v1 v2 v3 us
      obtain rfl : v1 = Value.int .i64 (k : Int) := c1
      obtain rfl : v2 = Value.int .i64 fr := c2
      obtain rfl : v3 = Value.int .i64 to := c3
      rw [Bool.and_eq_true, Bool.and_eq_true, Bool.and_eq_true, Bool.and_eq_true] at hb
      obtain ⟨⟨b1, b2, b3⟩, b4, b5⟩ := hb
      have hk := blt_true b1
      obtain ⟨ns, n1, n2, n3⟩ := fldL_ok (hc.take 11) b4
      obtain ⟨f0, f1, f2, f3, f4, f5, f6, f7, f8, f9, f10, rfl⟩ := eleven_of ns (by omega)
      have hd := hc.drop 11
      have hus : us = us.take 11 ++ us.drop 11 := (List.take_append_drop ..).symm
      unfold mgR at b5
      split at b5
      · rename_i l m b base l2 m2 e l3 m3 hr
        rw [hr] at hd
        generalize us.drop 11 = ds at hd hus
        cases hd with
        | cons d1 hd =>
        cases hd with
        | cons d2 hd =>
        cases hd with
        | cons d3 hd =>
        cases hd with
        | cons d4 hd =>
        cases hd with
        | cons d5 hd =>
        cases hd with
        | cons d6 hd =>
        cases hd
        rename_i u1 u2 u3 u4 u5 u6
        rw [Bool.and_eq_true, Bool.and_eq_true, Bool.and_eq_true, Bool.and_eq_true, Bool.and_eq_true] at b5
        obtain ⟨⟨s1, s2⟩, ⟨s3, s4⟩, s5, s6⟩ := b5
        obtain ⟨ser, rfl, ser1, ser2⟩ := d1
        obtain rfl : u3 = Value.int .i64 (base : Int) := d3
        obtain ⟨snap, rfl, snap1, snap2⟩ := d4
        obtain ⟨txt, rfl, txt1, txt2⟩ := d6
        unfold mgBt at s2
        split at s2
        · rename_i ys hys
          rw [Bool.and_eq_true] at s2
          obtain ⟨A, kk, cap, ws, rfl, w1, w2⟩ := slRd_ok hR hys d2
          obtain ⟨ps, rfl, p1, p2, p3, p4⟩ := btB_ok w1 s2.1
          have hkk : kk = ps.length := by have := w2.1; rw [flat_points] at this; omega
          subst hkk
          obtain ⟨A', cap', es, rfl, g1, g2, g3⟩ := lgB_ok hR (str_size snap1) s3 d5
          have hsn : snap.size ≤ 65536 := by
            rw [str_size snap1]
            unfold lgB at s3
            split at s3
            · simp only [Bool.and_eq_true] at s3; exact ble_true s3.1.2.1
            · cases s3
          have hne : nilO (slRd 5 e H) = true → es.length = 0 := fun q => by
            unfold nilO at q
            split at q
            · rename_i hz
              obtain ⟨A2, k2, cp2, zs, z1, z2, z3⟩ := slRd_ok hR hz d5
              cases z2
              have h31 : 0 = k2 * 5 := z3.1
              have e2 : es.length = k2 := by injection z1
              omega
            · cases q
          have hmem : ∀ j : Nat, (j : Int) ∉ Mg.flds k → memN j (fldsN k) = false := fun j q => by
            cases hm : memN j (fldsN k) with
            | false => rfl
            | true => exact absurd ((memN_flds hk).1 hm) q
          have all : ∀ j : Nat, j < 11 → ((j : Int) ∉ Mg.flds k → Tp.Msg.fld ⟨(k : Int), fr, to, f0, f1, f2, f3, f4, f5, f6, f7, f8, f9, f10⟩ j = 0) ∧ Mg.low k j ≤ Tp.Msg.fld ⟨(k : Int), fr, to, f0, f1, f2, f3, f4, f5, f6, f7, f8, f9, f10⟩ j ∧ Tp.Msg.fld ⟨(k : Int), fr, to, f0, f1, f2, f3, f4, f5, f6, f7, f8, f9, f10⟩ j ≤ Tp.high j := by
            have at' : ∀ i (hi : i < 11) (x : Int), [f0, f1, f2, f3, f4, f5, f6, f7, f8, f9, f10][i]'(by simpa using hi) = x → fldT k i x = true := fun i hi x hx => by
              have := n3 i (by simpa using hi)
              rw [Nat.zero_add, hx] at this
              exact this
            intro j hj
            rcases (by omega : j = 0 ∨ j = 1 ∨ j = 2 ∨ j = 3 ∨ j = 4 ∨ j = 5 ∨ j = 6 ∨ j = 7 ∨ j = 8 ∨ j = 9 ∨ j = 10) with rfl | rfl | rfl | rfl | rfl | rfl | rfl | rfl | rfl | rfl | rfl
            all_goals exact fldT_ok hk (at' _ (by omega) _ rfl)
          have hOk : Mg.Ok k ⟨(k : Int), fr, to, f0, f1, f2, f3, f4, f5, f6, f7, f8, f9, f10⟩ ser ps.length (base : Int) es.length txt := by
            refine ⟨hk, rfl, who_ok ?_ b2, who_ok ?_ b3, fun j hj => (all j hj).1, fun j hj => (all j hj).2.1, fun j hj => (all j hj).2.2, fun q => ?_, fun q => ?_, fun q => ?_, fun q => ?_, ?_, fun q => ?_⟩
            · unfold Mg.cliFrom; rw [beqN, beqN]
            · unfold Mg.cliTo; rw [beqN, beqN]
            · unfold mgS at s1
              rw [(memN_flds (j := 11) hk).2 q] at s1
              simp only [cnd_true, Bool.and_eq_true] at s1
              have g1 := ble_true s1.1
              have g2 := ble_true s1.2.1
              unfold Pt.nameB
              rw [Bool.and_eq_true, Bool.and_eq_true, decide_eq_true_eq, decide_eq_true_eq, str_size ser1]
              exact ⟨⟨g1, g2⟩, nmB_ok l _ ser1 (by rw [ser2]; exact s1.2.2)⟩
            · unfold mgS at s1
              rw [hmem 11 q] at s1
              have := nbeq_eq (x := l) (y := 0) s1
              exact str_empty (by rw [ser1, this])
            · rw [hmem 12 q] at s2
              have hn : nilL ys = true := by simpa using s2.2
              unfold nilL at hn
              split at hn
              · simp at p4; omega
              · cases hn
            · rw [hmem 13 q] at s4
              have hn : Nat.beq base 0 = true ∧ nilO (slRd 5 e H) = true := by simpa using s4
              refine ⟨by have := nbeq_eq hn.1; omega, hne hn.2⟩
            · rw [str_size txt1]; exact ble_true s5
            · rw [hmem 14 q] at s6
              have hn : Nat.beq l3 0 = true := by simpa using s6
              exact str_empty (by rw [txt1]; exact nbeq_eq hn)
          have hus2 : us = [f0, f1, f2, f3, f4, f5, f6, f7, f8, f9, f10].map (Value.int .i64) ++ [.string ser, .slice A ps.length cap, .int .i64 (base : Int), .string snap, .slice A' es.length cap', .string txt] := by rw [hus, n1]
          rw [hus2]
          refine (msgMay_gen (w := w) k _ ser A cap ps (base : Int) snap A' cap' es txt hOk (fields_gen k hk) w2 p1 p2 (fun p hp => (p3 p hp).2.2) g1 g2 (by unfold maxLen; omega) g3).mono ?_
          rintro e' w' ⟨rfl, hb'⟩
          exact ⟨_, G, rfl, stp_below hR hb', rfl⟩
        · cases s2
      · cases b5
    · cases hb
  · cases h
/-- the table with it -/
def S0 : SumT := addS 46 sMayG S00
theorem S0_ok : SumOk Tryz.prog S0 := addS_ok ⟨_, Tryz.func46, by kernel_rfl, by kernel_rfl⟩ sMayG_ok S00_ok
end
end Ev
end Go.Proofs.YtcchekmejnhlmaaGreat
