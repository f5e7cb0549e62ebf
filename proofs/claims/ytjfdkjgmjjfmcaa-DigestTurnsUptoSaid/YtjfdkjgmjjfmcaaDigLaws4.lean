/- The walk through DigestTurns. -/
import Derived.Test.YtjfdkjgmjjfmcaaDigLaws3
import Derived.Test.YtjfdkjgmjjfmcaaBulk
import Derived.Deep.RegionWith
namespace Go.Proofs.Ytjfdkjgmjjfmcaa
open Go.RowKit
set_option linter.unusedVariables false

def numbered (ss : List ByteArray) (n : Nat) : List (Int × ByteArray) := (ss.take n).zipIdx.map fun p => ((p.2 : Int) + 1, p.1)
theorem numbered_snoc (ss : List ByteArray) (n : Nat) (h : n < ss.length) : numbered ss (n + 1) = numbered ss n ++ [((n : Int) + 1, ss[n])] := by
  unfold numbered
  rw [List.take_succ_eq_append_getElem h, List.zipIdx_append, List.map_append]
  simp [List.length_take, Nat.min_eq_left (Nat.le_of_lt h)]
theorem numbered_length (ss : List ByteArray) (n : Nat) (h : n ≤ ss.length) : (numbered ss n).length = n := by
  unfold numbered; simp; omega
theorem rotL_snoc (fs : List (Int × ByteArray)) (f : Int × ByteArray) (want : List Int) : rotL (fs ++ [f]) want = rotL fs want ++ (if rotten want f then [f.1] else []) := by
  unfold rotL; rw [List.filter_append, List.map_append, List.filter_cons]; split <;> rfl
theorem rotL_numbered (ts : List ByteArray) (want : List Int) (n : Nat) (h : n ≤ ts.length) (h' : n ≤ want.length) : rotL (numbered ts n) want = diffTo (ts.map hI) want n := by
  induction n with
  | zero => rfl
  | succ n ih =>
    rw [numbered_snoc ts n (by omega), rotL_snoc, ih (by omega) (by omega)]
    have hx : n < (ts.map hI).length := by rw [List.length_map]; omega
    have hy : n < want.length := by omega
    have hg : (ts.map hI)[n] = hI ts[n] := by simp
    cases he : (hI ts[n] == want[n])
    · rw [diffTo_other _ _ n hx hy (by rw [hg]; exact he)]
      have := rotten_yes want (n + 1) ts[n] (by omega) (by omega) he
      rw [show (((n + 1 : Nat) : Int)) = (n : Int) + 1 from by omega] at this
      rw [this]; rfl
    · rw [diffTo_same _ _ n hx hy (by rw [hg]; exact he)]
      have := rotten_same want (n + 1) ts[n] (by omega) (by omega) he
      rw [show (((n + 1 : Nat) : Int)) = (n : Int) + 1 from by omega] at this
      rw [this]; simp
theorem numbered_set (ss : List ByteArray) (k : Nat) (t : ByteArray) (hk : k < ss.length) : ((numbered ss ss.length).flatMap fileCells).set (k * 2 + 1) (.string t) = (numbered (ss.set k t) (ss.set k t).length).flatMap fileCells := by
  have hl1 : (numbered ss ss.length).length = ss.length := numbered_length _ _ (Nat.le_refl _)
  have hl2 : (numbered (ss.set k t) (ss.set k t).length).length = ss.length := by rw [numbered_length _ _ (Nat.le_refl _), List.length_set]
  apply List.ext_getElem?
  intro j
  by_cases hj : j < ss.length * 2
  · have hq : j / 2 < ss.length := by omega
    have hs : j = j / 2 * 2 + j % 2 := by omega
    have e1 : (numbered ss ss.length)[j / 2]? = some (((j / 2 : Nat) : Int) + 1, ss[j / 2]) := by
      simp [numbered, hq]
    have e2 : (numbered (ss.set k t) (ss.set k t).length)[j / 2]? = some (((j / 2 : Nat) : Int) + 1, (ss.set k t)[j / 2]'(by simpa using hq)) := by
      simp [numbered, hq]
    have f1 := flat_at fileCells 2 (fun _ => rfl) (numbered ss ss.length) (j / 2) (j % 2) (by omega) (by omega)
    have f2 := flat_at fileCells 2 (fun _ => rfl) (numbered (ss.set k t) (ss.set k t).length) (j / 2) (j % 2) (by omega) (by omega)
    rw [← hs] at f1 f2
    rw [f2, List.getElem?_set]
    rw [(List.getElem?_eq_some_iff.1 e2).2]
    by_cases hjk : k * 2 + 1 = j
    · have hk2 : j / 2 = k := by omega
      have hm : j % 2 = 1 := by omega
      rw [if_pos hjk, if_pos (by rw [flat_length fileCells 2 (fun _ => rfl)]; omega), hm]
      simp [fileCells, hk2]
    · rw [if_neg hjk, f1, (List.getElem?_eq_some_iff.1 e1).2]
      by_cases hm : j % 2 = 0
      · rw [hm]; rfl
      · have hm1 : j % 2 = 1 := by omega
        have hne : k ≠ j / 2 := by omega
        rw [hm1]
        simp [fileCells, List.getElem_set_ne hne]
  · rw [List.getElem?_eq_none (by rw [List.length_set, flat_length fileCells 2 (fun _ => rfl)]; omega), List.getElem?_eq_none (by rw [flat_length fileCells 2 (fun _ => rfl)]; omega)]

theorem own_below {w w' : World} {base : Nat} {e : TypeId} {size n : Nat} {v : Value} {xs : List Value} (h : w.ownsRow base e size v n xs) (hb : Below w.heap.size w w') : w'.ownsRow base e size v n xs :=
  h.kept (row := .none) ⟨hb.os, hb.tape, hb.output, hb.size, fun k hk _ => hb.block k hk⟩ (by cases hx : v.ownBlock with | none => exact .inl rfl | some g => exact .inr (by simp))
theorem own_far {w : World} {base g : Nat} {e : TypeId} {size n cap : Nat} {xs : List Value} (h : w.ownsRow base e size (.slice (some ⟨g, 0, .none⟩) n cap) n xs) (p : Addr) (u : Value) (hp : g ≠ p.block) : (w.setCell p u).ownsRow base e size (.slice (some ⟨g, 0, .none⟩) n cap) n xs :=
  h.kept (row := some p.block) ⟨rfl, rfl, rfl, by simp, fun k hk hne => Below.heap_setCell w p u k (fun e => hne (by rw [e]))⟩ (.inr (by simpa [Value.ownBlock] using hp))
theorem reads_far {w : World} {B size n : Nat} {A : Option Addr} {xs : List Value} (h : Reads w B size A n xs) (p : Addr) (u : Value) (hp : B ≤ p.block) : Reads (w.setCell p u) B size A n xs :=
  h.keep fun q hq => World.cell?_setCell_other w p q u (fun e => by subst e; omega)
/-- the bytes behind a turn -/
theorem turned_cells (w : World) (e : TypeId) (s : ByteArray) (k : Nat) (b : UInt8) (c : Nat) (j : Nat) (hj : j < (turned s k b).size) :
    ((w.alloc (bytesObj e s c)).setCell ⟨w.heap.size, k, .none⟩ (.int .u8 (b.toNat : Int))).cell? ⟨w.heap.size, j, .none⟩ = some (.int .u8 ((turned s k b).data.toList[j]'(by simpa using hj)).toNat) := by
  have hj' : j < s.size := by rw [turned_size] at hj; exact hj
  have hl : j < (s.data.toList.set k b).length := by simpa using hj'
  show _ = some (Value.int .u8 ((s.data.toList.set k b)[j]'hl).toNat)
  by_cases e : j = k
  · subst e
    rw [List.getElem_set_self]
    exact World.cell?_setCell_same _ _ _ (bytes_cell w _ s c j hj')
  · rw [World.cell?_setCell_other _ _ _ _ (fun h => e (by injection h with _ h2 _; exact h2.symm)), bytes_cell w _ s c j hj', List.getElem_set_ne (fun h => e h.symm)]
    congr 2
theorem conv_of_cells {P : Program} (src dst e : TypeId) (hs : P.underlying src = some (.slice e)) (he : P.underlying e = some (.int .u8)) (hd : P.underlying dst = some .string) (g : Nat) (T : ByteArray) (n cap : Nat) (hn : T.size = n) (w : World)
    (hc : ∀ j (hj : j < T.size), w.cell? ⟨g, j, .none⟩ = some (.int .u8 ((T.data.toList[j]'(by simpa using hj)).toNat : Nat))) :
    (convert src dst (.slice (some ⟨g, 0, .none⟩) n cap)).run P w = .ok (.string T) w := by
  subst hn
  have h := run_convert_bytes_back (P := P) w src dst e ⟨g, 0, .none⟩ cap T.data.toList hs he hd (fun j hj => by
    rw [add_mk, Nat.zero_add]
    exact hc j (by simpa using hj))
  have hl : T.data.toList.length = T.size := by simp
  rw [hl] at h
  exact h
theorem reads_drew {w : World} {B size n : Nat} {A : Option Addr} {xs : List Value} (h : Reads w B size A n xs) : Reads w.drew B size A n xs := h
theorem sameInts_one (A B : Option Addr) (c d : Nat) (x : Int) (w : World) (b1 b2 : Nat) (hr : Reads w b1 1 A 1 [.int .i64 x]) (hq : Reads w b2 1 B 1 [.int .i64 x]) :
    Calls Try.prog 36 #[.slice A 1 c, .slice B 1 d] w fun e w' => e = .returned (.bool true) ∧ ∃ n, w' = w.drewN n :=
  sameInts_true A B c d [x] w b1 b2 hr hq (by show 1 ≤ _; omega)
theorem rot_n (A B : Option Addr) (c d n m : Nat) (fs : List (Int × ByteArray)) (ys : List Int) (w : World) (hn : fs.length = n) (hm : ys.length = m) (hr : Reads w w.heap.size 2 A n (fs.flatMap fileCells)) (hq : Reads w w.heap.size 1 B m (ys.map (.int .u64)))
    (hs : ∀ f ∈ fs, f.2.size ≤ maxLen) (hn' : n ≤ 5864062014805) (hm' : m ≤ 17592186043904) :
    Calls Try.prog 43 #[.slice A n c, .slice B m d] w fun e w' => ∃ v, e = .returned v ∧
      w'.ownsRow w.heap.size 3 1 v (rotL fs ys).length ((rotL fs ys).map (.int .i64)) ∧ Below w.heap.size w w' := by
  subst hn; subst hm
  exact rot_any A B c d fs ys w hr hq hs hn' hm'

set_option maxRecDepth 100000 in
set_option maxHeartbeats 8000000 in
theorem digestTurns_walk (A0 : Option Addr) (c0 : Nat) (z0 : List ByteArray) (a1 a2 a3 : Int)
    (w : World) (rd0 : Reads w w.heap.size 1 A0 z0.length (z0.map .string)) (wf0 : ∀ s ∈ z0, s.size ≤ maxLen) (w1 : (Lit.int .i64 a1).wf = true) (w2 : (Lit.int .i64 a2).wf = true) (w3 : (Lit.int .i64 a3).wf = true) (ub : (z0.map fun s => s.size + 1).sum ≤ 1048576) :
    Calls Try.prog 9 #[.slice A0 z0.length c0, .int .i64 a1, .int .i64 a2, .int .i64 a3] w fun e w' => e = .returned (.bool true) ∧ Below w.heap.size w w' := by
  obtain ⟨iF, hiF, hzF0, hzF1, hzF2⟩ := info_parts info_copyFiles
  have hn : z0.length ≤ 1048576 := by have := sum_ge_length (fun s : ByteArray => s.size + 1) 1 (fun s => by omega) z0; omega
  have Hs := Lib.hid wf0
  have Hb : Hid (∀ s ∈ z0, s.size ≤ 1048576) := fun s hs => by have := le_sum (fun s : ByteArray => s.size + 1) z0 hs; omega
  clear wf0 w1 w2 w3 ub
  go_enter Try.func9, Try.ntmps9
  go_wp2_with fail
  refine (awake19 _).mono ?_
  rintro e w1 ⟨rfl, hb1⟩
  go_wp2_with fail
  refine (of_any A0 c0 z0 w1 ((rd0.below hb1).more hb1.size) Hs.out (by omega)).mono ?_
  rintro e w2 ⟨v2, rfl, hown2, hb2⟩
  obtain ⟨B2, d2, hv2, hd2, hr2⟩ := own_slice hown2
  subst hv2
  have hb12 : Below w.heap.size w w2 := hb1.trans (hb2.mono hb1.size)
  clear hown2
  rw [hv_eq] at hr2
  have hl : ((z0.length : Int) != (z0.length : Int)) = false := by simp
  go_wp2_with fail
  go_loopw [10, 11] (fun f i wr => ∃ n : Nat, n ≤ z0.length ∧ i = .int .i64 (n : Int) ∧ wr.ownsRow w2.heap.size 52 2 f n ((numbered z0 n).flatMap fileCells) ∧ Below w2.heap.size w2 wr) (fun _ i _ => z0.length - (intOf i).toNat)
  case atStart => exact ⟨0, by omega, rfl, own_nil _ _ _ _, Below.refl _ _⟩
  case round =>
    obtain ⟨n, hn', rfl, hof, hbr⟩ := hrel
    have hbw : Below w.heap.size w wr := hb12.trans (hbr.mono hb12.size)
    by_cases hlt : n < z0.length
    · obtain ⟨b, off, rfl, hbl, hc⟩ := (rd0.below hbw).2 (by omega)
      have hcell := hc n (.string z0[n]) (by simp [hlt])
      have Hsn := Lib.hid (numbered_snoc z0 n hlt)
      clear hc rd0
      go_wp2_with (at_builtin; refine wpList_push wr rfl _ _ 46 rfl w2.heap.size 52 iF _ 2 24 Try.underlying46 hiF hzF0 hzF1 hzF2 rfl (by decide) _ n _ (by rfl) hof [.int .i64 ((n : Int) + 1), .string z0[n]] (by rfl) rfl (by simp [Value.oneCell']) (by unfold maxLen; omega) (by omega) w2 hbr hbr.size ?_; intro v3 w3 hof3 hb3)
      go_roundw
      case rel => exact ⟨n + 1, by omega, by go_num, by rw [Hsn.out, List.flatMap_append]; exact hof3, hb3⟩
      case measure => simp [intOf]; omega
    · obtain rfl : n = z0.length := by omega
      have hNl := numbered_length z0 z0.length (Nat.le_refl _)
      have hWl : (z0.map hI).length = z0.length := List.length_map _
      have hrot : rotL (numbered z0 z0.length) (z0.map hI) = [] := by rw [rotL_numbered _ _ _ (Nat.le_refl _) (by omega), diffTo_refl]
      obtain ⟨Bf, cf, hvf, hcf, hrf⟩ := own_slice hof
      subst hvf
      have hr2' := hr2.below hbr
      have hs2 := hbr.size
      have HsN : ∀ f ∈ numbered z0 z0.length, f.2.size ≤ maxLen := by
        intro f hf
        unfold numbered at hf
        simp only [List.mem_map] at hf
        obtain ⟨p, hp, rfl⟩ := hf
        have := List.fst_mem_of_mem_zipIdx hp
        exact Hs.out _ (List.mem_of_mem_take this)
      have hcall := rot_n Bf B2 cf d2 z0.length z0.length (numbered z0 z0.length) (z0.map hI) wr hNl hWl hrf (hr2'.more hs2) HsN (by omega) (by omega)
      rw [hrot] at hcall
      have Hcall := Lib.hid hcall
      have hr2w := rd0.below hbw
      clear hcall hrot hNl hWl HsN hrf rd0
      go_wp2_with fail
      refine Hcall.out.mono ?_
      rintro e w4 ⟨v4, rfl, hown4, hb4⟩
      obtain ⟨B4, d4, hv4, _, _⟩ := own_slice hown4
      subst hv4
      have hbw4 : Below w.heap.size w w4 := hbw.trans (hb4.mono hbw.size)
      have hr4 := hr2'.below (hb4.mono hs2)
      have hof4 : w4.ownsRow w2.heap.size 52 2 (.slice Bf z0.length cf) z0.length ((numbered z0 z0.length).flatMap fileCells) := own_below hof hb4
      have hrd4 := hr2w.below (hb4.mono hbw.size)
      clear Hcall hown4 hr2' hof hr2w
      by_cases h0 : z0.length = 0
      · have h0' : ((z0.length : Int) == 0) = true := beq_iff_eq.2 (by omega)
        clear hof4 hr4 hrd4 hl
        obtain rfl : z0 = [] := List.eq_nil_of_length_eq_zero h0
        go_wp2_with fail
        go_ret
        exact ⟨rfl, hbw4⟩
      · have h0' : ((z0.length : Int) == 0) = false := beq_eq_false_iff_ne.2 (by omega)
        obtain ⟨k, hk, hk1⟩ := pick_of a1 z0.length (by omega) (by omega)
        obtain ⟨b, off, hA, hbl, hc⟩ := hrd4.2 (by omega)
        subst hA
        have hcell := hc k (.string z0[k]) (by simp [hk])
        have hsk := Hb.out _ (List.getElem_mem hk)
        clear hc h0
        by_cases h1 : z0[k].size = 0
        · have he : z0[k] = ⟨#[]⟩ := empty_of h1
          rw [he] at hcell
          clear hof4 hr4 hl
          go_wp2_with fail
          go_ret
          exact ⟨rfl, hbw4⟩
        · have hne := nonempty_of h1
          obtain ⟨i, hi, hi1⟩ := pick_of a2 z0[k].size (by omega) (by omega)
          obtain ⟨d, hd, hx⟩ := turn_of a3 z0[k][i]
          have hcv := to_bytes (P := Try.prog) 9 30 5 Try.underlying9 Try.underlying30 Try.underlying5 z0[k] w4
          have hcell5 := fun cap => bytes_cell w4 5 z0[k] cap i hi
          have hfro5 := fun cap => bytes_frozen w4 5 z0[k] cap i hi
          have hback := fun c => from_turned_drew (P := Try.prog) 30 9 5 Try.underlying30 Try.underlying5 Try.underlying9 z0[k] i d hi c c w4
          obtain ⟨gf, capf, hvf, hgf, hltf⟩ := hof4.form (by omega)
          obtain ⟨rfl, rfl⟩ : Bf = some ⟨gf, 0, none⟩ ∧ cf = capf := by injection hvf with h1 _ h2; exact ⟨h1, h2⟩
          have hcf4 : w4.cell? ⟨gf, k * 2 + 1, none⟩ = some (.string z0[k]) := by
            rw [hof4.cellAt (k * 2 + 1) (by omega), flat_at fileCells 2 (fun _ => rfl) _ k 1 (by rw [numbered_length _ _ (Nat.le_refl _)]; exact hk) (by omega)]
            have : (numbered z0 z0.length)[k]? = some ((k : Int) + 1, z0[k]) := by simp [numbered, hk]
            rw [(List.getElem?_eq_some_iff.1 this).2]; rfl
          have hff4 : w4.frozen? ⟨gf, k * 2 + 1, none⟩ = false := hof4.frozenAt _
          have hgw : ¬ w4.heap.size = gf := by omega
          have hset := Lib.hid (numbered_set z0 k (turned z0[k] i d) hk)
          have hne1 : hI (turned z0[k] i d) ≠ hI z0[k] := by
            have := hash_turned_ne z0[k] i d hi hd
            rw [bne_iff_ne] at this
            exact fun h => this h.symm
          have Hne := Lib.hid hne1
          have hszT := Lib.hid (turned_size z0[k] i d)
          clear hd hvf hne1
          go_wp2_with fail
          have hcells := fun c => turned_cells w4 5 z0[k] i d c
          have hof5 := fun O => (own_far (hof4.alloc O) ⟨w4.heap.size, i, none⟩ (.int .u8 (d.toNat : Int)) (by show gf ≠ w4.heap.size; omega)).stored (k * 2 + 1) (.string (turned z0[k] i d))
          have hr5 := fun O => reads_far (reads_far (hr4.alloc (Nat.le_trans hs2 hb4.size) O) ⟨w4.heap.size, i, none⟩ (.int .u8 (d.toNat : Int)) (Nat.le_trans hs2 hb4.size)) ⟨gf, k * 2 + 1, none⟩ (.string (turned z0[k] i d)) hgf
          have hb5 := fun O => ((hbw4.alloc hbw4.size O).setCell (p := ⟨w4.heap.size, i, none⟩) hbw4.size (.int .u8 (d.toNat : Int))).setCell (p := ⟨gf, k * 2 + 1, none⟩) (Nat.le_trans hb12.size hgf) (.string (turned z0[k] i d))
          have hf5 := fun O (j : Nat) (u : Value) (h : ((w4.alloc O).setCell ⟨w4.heap.size, i, none⟩ (.int .u8 (d.toNat : Int))).cell? ⟨w4.heap.size, j, none⟩ = some u) => (World.cell?_setCell_other ((w4.alloc O).setCell ⟨w4.heap.size, i, none⟩ (.int .u8 (d.toNat : Int))) ⟨gf, k * 2 + 1, none⟩ ⟨w4.heap.size, j, none⟩ (.string (turned z0[k] i d)) (fun e => hgw (by injection e with e1; exact e1.symm))).trans h
          have hsz5 := fun O => (show w4.heap.size + 1 = (((w4.alloc O).setCell ⟨w4.heap.size, i, none⟩ (.int .u8 (d.toNat : Int))).setCell ⟨gf, k * 2 + 1, none⟩ (.string (turned z0[k] i d))).heap.size from by simp)
          have hcells := hcells (grownCap w4 z0[k].size 0 5)
          generalize bytesObj 5 z0[k] (grownCap w4 z0[k].size 0 5) = O at *
          replace hof5 := (hof5 O).1
          replace hr5 := hr5 O
          replace hb5 := hb5 O
          replace hsz5 := hsz5 O
          have hcells5 := fun j hj => hf5 O j _ (hcells j hj)
          rw [hset.out] at hof5
          clear hf5 hcells hcv hcell5 hfro5 hback hcf4 hff4 hof4 hr4 hx hcell hrd4 hne hl hgw
          generalize (((w4.alloc O).setCell ⟨w4.heap.size, i, none⟩ (.int .u8 (d.toNat : Int))).setCell ⟨gf, k * 2 + 1, none⟩ (.string (turned z0[k] i d))) = w5 at *
          generalize grownCap w4 z0[k].size 0 5 = cB at *
          have hyl : (z0.set k (turned z0[k] i d)).length = z0.length := List.length_set
          rw [hyl] at hof5
          have hWl : (z0.map hI).length = z0.length := List.length_map _
          have hrotk : rotL (numbered (z0.set k (turned z0[k] i d)) z0.length) (z0.map hI) = [(k : Int) + 1] := by
            rw [rotL_numbered _ _ _ (by omega) (by omega)]
            refine diffTo_one _ _ k _ hk ?_ ?_
            · have e1 : ((z0.set k (turned z0[k] i d)).map hI).getD k 0 = hI (turned z0[k] i d) := by simp [List.getD_eq_getElem?_getD, hk]
              have e2 : (z0.map hI).getD k 0 = hI z0[k] := by simp [List.getD_eq_getElem?_getD, hk]
              rw [e1, e2]; exact Hne.out
            · intro m hm
              simp only [List.getD_eq_getElem?_getD, List.getElem?_map, List.getElem?_set_ne (fun h => hm h.symm)]
          have HsN : ∀ f ∈ numbered (z0.set k (turned z0[k] i d)) z0.length, f.2.size ≤ maxLen := by
            intro f hf
            unfold numbered at hf
            simp only [List.mem_map] at hf
            obtain ⟨p, hp, rfl⟩ := hf
            have := List.mem_of_mem_take (List.fst_mem_of_mem_zipIdx hp)
            rcases List.mem_or_eq_of_mem_set this with h | h
            · exact Hs.out _ h
            · rw [h, hszT.out]; unfold maxLen; omega
          have Hrot : Hid (∀ W, Below w5.heap.size w5 W → Calls Try.prog 43 #[.slice (some ⟨gf, 0, none⟩) z0.length cf, .slice B2 z0.length d2] W fun e w' => ∃ v, e = .returned v ∧ w'.ownsRow W.heap.size 3 1 v 1 [.int .i64 ((k : Int) + 1)] ∧ Below W.heap.size W w') := by
            intro W hW
            have := rot_n (some ⟨gf, 0, none⟩) B2 cf d2 z0.length z0.length (numbered (z0.set k (turned z0[k] i d)) z0.length) (z0.map hI) W (by rw [numbered_length _ _ (by omega)]) hWl (((Reads.of_own hof5).below hW).more hW.size) ((hr5.below (hW.mono (by omega))).more (by have := hW.size; omega)) HsN (by omega) (by omega)
            rw [hrotk] at this
            exact this
          have Hconv : Hid (∀ W, Below w5.heap.size w5 W → (convert 30 9 (.slice (some ⟨w4.heap.size, 0, none⟩) z0[k].size cB)).run Try.prog W = .ok (.string (turned z0[k] i d)) W) := by
            intro W hW
            exact conv_of_cells 30 9 5 Try.underlying30 Try.underlying5 Try.underlying9 w4.heap.size _ _ _ hszT.out W (fun j hj => (hW.cell (p := ⟨w4.heap.size, j, none⟩) (by show w4.heap.size < w5.heap.size; omega)).trans (hcells5 j hj))
          obtain ⟨b2, o2, hB2, hbl2, hc2⟩ := hr5.2 (by omega)
          subst hB2
          have hcw := hc2 k (.int .u64 (hI z0[k])) (by simp [hk])
          have Hld : Hid (∀ W, Below w5.heap.size w5 W → W.cell? ⟨b2, o2 + k, none⟩ = some (.int .u64 (hI z0[k]))) := fun W hW => (hW.cell (p := ⟨b2, o2 + k, none⟩) (by show b2 < w5.heap.size; omega)).trans hcw
          clear hc2 hcw hcells5 HsN hrotk hof5 hr5 hset
          have hsT : (turned z0[k] i d).size ≤ maxLen := by rw [hszT.out]; unfold maxLen; omega
          rw [hk1]
          have e1 : IntKind.i64.wrap ((k : Int) + 1) = (k : Int) + 1 := IntWalk.i64_in _ (by omega)
          have e2 : (k : Int) < (z0.length : Int) := by omega
          have one1 : [(k : Int) + 1].length ≤ 140737488355328 := by show 1 ≤ _; omega
          go_region_with (first
            | (go_at_call 43; refine (Hrot.out _ ?_).mono ?_; (repeat' (first | exact Below.refl _ _ | apply Below.drew | (refine Below.alloc ?_ (by simp) _))); rintro e w6 ⟨v6, rfl, hown6, hb6⟩; obtain ⟨A6, c6, hv6, _, hr6⟩ := own_slice hown6; subst hv6; clear hown6; have hb56 : Below w5.heap.size w5 w6 := (by refine Below.trans ?_ (hb6.mono ?_); (repeat' (first | exact Below.refl _ _ | apply Below.drew | (refine Below.alloc ?_ (by simp) _))); simp))
            | (go_at_call_of 36 (Value.slice (some ⟨w6.heap.size, 0, none⟩) 1 1); (with_reducible refine (sameInts_one A6 (some ⟨w6.heap.size, 0, none⟩) c6 1 ((k : Int) + 1) (w6.alloc (.cells #[.int .i64 ((k : Int) + 1)] 3)) _ _ (hr6.alloc (Nat.le_refl _) _) (Reads.new w6 3 1 1 [.int .i64 ((k : Int) + 1)] rfl)).mono ?_); rintro e w' ⟨rfl, n7, rfl⟩; have hbz : Below w5.heap.size w5 ((w6.alloc (.cells #[.int .i64 ((k : Int) + 1)] 3)).drewN n7) := below_drewN (hb56.alloc hb56.size _) _; have hcv7 := Hconv.out _ hbz; have hld7 := Hld.out _ hbz)
            | (go_at_call_of 36 (Value.slice (some ⟨w5.heap.size, 0, none⟩) 1 1); have hlit : Reads w6 (w5.heap.size + 1) 1 (some ⟨w5.heap.size, 0, none⟩) 1 [.int .i64 ((k : Int) + 1)] := Reads.below (reads_drew (reads_drew (Reads.new w5 3 1 1 [.int .i64 ((k : Int) + 1)] rfl))) (hb6.mono (by simp)); (with_reducible refine (sameInts_one A6 (some ⟨w5.heap.size, 0, none⟩) c6 1 ((k : Int) + 1) w6 w6.heap.size (w5.heap.size + 1) hr6 hlit).mono ?_); rintro e w' ⟨rfl, n7, rfl⟩; have hbz : Below w5.heap.size w5 (w6.drewN n7) := below_drewN hb56 _; have hcv7 := Hconv.out _ hbz; have hld7 := Hld.out _ hbz)
            | (go_at_call 40; (with_reducible refine (good_false (turned z0[k] i d) (hI z0[k]) _ hsT ?_).mono ?_); exact Hne.out; rintro e w' ⟨rfl, rfl⟩))
          all_goals
            go_wp2_with fail
            go_ret
            exact ⟨rfl, hb5.trans (hbz.mono hb5.size)⟩
end Go.Proofs.Ytjfdkjgmjjfmcaa
