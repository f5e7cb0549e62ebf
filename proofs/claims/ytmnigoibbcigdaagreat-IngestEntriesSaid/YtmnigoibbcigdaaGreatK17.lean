/- Joined texts: IgAwake, IgLaws3, RmLaw. -/
import Derived.Test.YtmnigoibbcigdaaGreatK10
import Derived.Test.YtmnigoibbcigdaaGreatK11
import Derived.Test.YtmnigoibbcigdaaGreatK13
import Derived.Test.YtmnigoibbcigdaaGreatK14
import Derived.Test.YtmnigoibbcigdaaGreatK15
import Derived.Test.YtmnigoibbcigdaaGreatK16
import Derived.Test.YtmnigoibbcigdaaGreatK2
import Derived.Test.YtmnigoibbcigdaaGreatK3
import Derived.Test.YtmnigoibbcigdaaGreatK7
import Derived.Deep.DeepCutAuto
/- The walks through begun, write and awake of cachetlaw11 (chapter 11). -/
namespace Go.Proofs.YtmnigoibbcigdaaGreat
open Go.RowKit
set_option linter.unusedVariables false

theorem ig_reads_one (W : World) (t v : Int) : Reads (W.alloc (.cells #[.string ⟨#[115]⟩, .int .i64 t, .int .i64 v] 66)) (W.heap.size + 1) 3 (some ⟨W.heap.size, 0, none⟩) [Ig.pt t v].length ([Ig.pt t v].flatMap pointCells) :=
  Reads.new W 66 3 1 (pointCells (Ig.pt t v)) rfl
def BegunPost (w : World) (e : Ending) (w' : World) : Prop := e = .returned (.pointer (some ⟨w.heap.size, 0, none⟩)) ∧ MachX w' w.heap.size w.heap.size Ig.m1 (fun _ => False) ∧ Below w.heap.size w w'
def WritePost (w : World) (k t v : Int) (e : Ending) (w' : World) : Prop :=
  ∃ b, e = .returned (.agg #[.int .i64 0, .int .i64 0, .int .i64 1, .int .i64 k, .slice (some ⟨b, 0, none⟩) 1 1]) ∧ Reads w' w'.heap.size 3 (some ⟨b, 0, none⟩) 1 ([Ig.pt t v].flatMap pointCells) ∧ w.heap.size ≤ b ∧ b < w'.heap.size ∧ Below w.heap.size w w'
/-- an entry that write made is applied -/
theorem applyW {w w2 : World} {base g b : Nat} {m : Ig.M} {X : Nat → Prop} {t v : Int} (hm : MachX w base g m X) (hI : Ig.Inv m) (hX : ∀ k, X k → k < w.heap.size) (hbase : base ≤ w.heap.size) (hb : Below w.heap.size w w2) (hb1 : w.heap.size ≤ b) (hb2 : b < w2.heap.size) (hr : Reads w2 w2.heap.size 3 (some ⟨b, 0, none⟩) 1 ([Ig.pt t v].flatMap pointCells)) (h1 : -2147483648 ≤ t ∧ t ≤ 2147483647) (h2 : -2147483648 ≤ v ∧ v ≤ 2147483647) (k : Int) :
    Calls Tryz.prog 6 #[.pointer (some ⟨g, 0, none⟩), .agg #[.int .i64 0, .int .i64 0, .int .i64 1, .int .i64 k, .slice (some ⟨b, 0, none⟩) 1 1]] w2 (ApplyPost' w2 base g X (Ig.applyM m 0 0 1 k [Ig.pt t v])) := by
  have hs := hb.size
  refine (applyX (hm.more (Y := fun k => X k ∨ k = b) hb (fun k q => ?_)) hI 0 0 1 k (some ⟨b, 0, none⟩) 1 1 [Ig.pt t v] rfl hr (Ig.pt_wf h1 h2) (by simp) (fun k q => ?_) (fun b' off e => .inl (.inr ?_)) (by omega)).mono fun e w' h => ?_
  · rcases q with q | q
    · exact .inl q
    · exact .inr (by omega)
  · rcases q with q | q
    · have := hX k q; omega
    · omega
  · injection e with e; injection e with e _ _; exact e.symm
  · obtain ⟨he, hm', ho⟩ := h
    exact ⟨he, hm'.less (fun k _ _ q => .inl q), ho.mono fun k _ q => ⟨q.1, fun z => q.2 (.inl z)⟩⟩
/-- an entry with effect -/
theorem ig_a0 : Ig.mayB 0 0 1 1 [Ig.pt 2 3] = true := by decide +kernel
def Ig.a1 : Ig.M := ⟨2, [(1, 1, 2, 2)], [Ig.pt 2 3], [], []⟩
def Ig.a2 : Ig.M := ⟨3, [(1, 1, 2, 2)], [Ig.pt 2 3], [], []⟩
theorem ig_a1 : Ig.applyM Ig.m1 0 0 1 1 [Ig.pt 2 3] = (Ig.a1, 2, 0) := by rfl
theorem ig_a2 : Ig.applyM Ig.a1 0 0 9 1 [] = (Ig.a2, -1, 4) := by rfl
theorem ig_a3 : Ig.snapR Ig.a2 = (⟨#[]⟩, 1100) := by rfl
theorem ig_a4 : Ig.loadR ⟨#[120]⟩ = none := by rfl
set_option maxRecDepth 100000 in
set_option maxHeartbeats 2000000 in
theorem awake11 (w : World) : Calls Tryz.prog 17 #[] w fun e w' => e = .returned (.bool true) ∧ Below w.heap.size w w' := by
  have HN := Lib.hid (newX w)
  have i1 := Ig.inv1
  have i2 : Ig.Inv Ig.a1 := by have := Ig.inv_apply i1 0 0 1 1 [Ig.pt 2 3]; rw [ig_a1] at this; exact this
  have i3 : Ig.Inv Ig.a2 := by have := Ig.inv_apply i2 0 0 9 1 []; rw [ig_a2] at this; exact this
  have I1 := Lib.hid i1
  have I2 := Lib.hid i2
  have I3 := Lib.hid i3
  have HL := fun W => Lib.hid (load_any ⟨#[120]⟩ W (by decide))
  rw [ig_a4] at HL
  clear i1 i2 i3
  go_enter Tryz.func17, Tryz.ntmps17
  go_wp2_with fail
  refine HN.out.mono ?_
  rintro e w1 ⟨rfl, hm, hb⟩
  have Hb := Lib.hid hb
  have hs := hb.size
  have HA := Lib.hid (applyX hm Ig.inv0 0 0 0 0 none 0 0 [] rfl Reads.none_ (fun p hp => by simp at hp) (by simp) (fun k h => absurd h id) (fun b off h => by cases h) hs)
  rw [Ig.begun_eq] at HA
  clear hm hb
  go_wp2_with fail
  refine HA.out.mono ?_
  rintro e w2 ⟨rfl, hm2, ho2⟩
  have HM2 := Lib.hid hm2
  have Hb2 : Hid (Below w.heap.size w w2) := Hb.out.trans (ho2.below (fun k hk q => by omega) hs)
  have hs2 := Hb2.out.size
  clear hm2 ho2 HA Hb
  simp only
  have HA := Lib.hid (applyX (HM2.out.more (Y := fun k => k = w2.heap.size) ((Below.refl _ w2).alloc (Nat.le_refl _) (.cells #[.string ⟨#[115]⟩, .int .i64 2, .int .i64 3] 66)) (fun k h => .inr (by rw [h]; exact Nat.le_refl _))) I1.out 0 0 1 1 (some ⟨w2.heap.size, 0, none⟩) 1 1 [Ig.pt 2 3] rfl ((ig_reads_one w2 2 3).more (by simp)) (fun p hp => by rw [List.mem_singleton] at hp; subst hp; exact ⟨⟨by decide, by decide⟩, ⟨by decide, by decide⟩⟩) (by simp) (fun k h => by rw [h]; simp) (fun b off h => .inl (by injection h with h; injection h with h _ _; exact h.symm)) (by simp; omega))
  rw [ig_a1] at HA
  have Hb2' : Hid (Below w.heap.size w (w2.alloc (.cells #[.string ⟨#[115]⟩, .int .i64 2, .int .i64 3] 66))) := Hb2.out.alloc hs2 _
  go_wp2_with fail
  refine HA.out.mono ?_
  rintro e w4 ⟨rfl, hm4, ho4⟩
  have HM4 : Hid (MachX w4 w.heap.size w.heap.size Ig.a1 (fun _ => False)) := (hm4.less (Y := fun _ => False) (fun k _ _ h => absurd h id))
  have Hb4 : Hid (Below w.heap.size w w4) := Hb2'.out.trans (ho4.below (fun k hk q => by omega) Hb2'.out.size)
  have hs4 := Hb4.out.size
  clear hm4 ho4 HA Hb2 Hb2' HM2 I1 hs2
  simp only
  have HA := Lib.hid (applyX HM4.out I2.out 0 0 9 1 none 0 0 [] rfl Reads.none_ (fun p hp => by simp at hp) (by simp) (fun k h => absurd h id) (fun b off h => by cases h) hs4)
  rw [ig_a2] at HA
  go_wp2_with fail
  refine HA.out.mono ?_
  rintro e w5 ⟨rfl, hm5, ho5⟩
  have HM5 : Hid (MachX w5 w.heap.size w.heap.size Ig.a2 (fun _ => False)) := hm5
  have Hb5 : Hid (Below w.heap.size w w5) := Hb4.out.trans (ho5.below (fun k hk q => by omega) hs4)
  have hs5 := Hb5.out.size
  clear hm5 ho5 HA Hb4 HM4 I2 hs4
  simp only
  have HA := Lib.hid (snapX HM5.out I3.out)
  rw [ig_a3] at HA
  go_wp2_with fail
  refine HA.out.mono ?_
  rintro e w6 ⟨rfl, hb6⟩
  have HM6 := Lib.hid (HM5.out.below hb6)
  have Hb6 : Hid (Below w.heap.size w w6) := Hb5.out.trans (hb6.mono hs5)
  have hs6 := Hb6.out.size
  clear hb6 HA Hb5 HM5 hs5 I3
  simp only
  go_wp2_with fail
  refine (HL w6).out.mono ?_
  rintro e w7 ⟨rfl, hb7⟩
  have HM7 := Lib.hid (HM6.out.below hb7)
  have Hb7 : Hid (Below w.heap.size w w7) := Hb6.out.trans (hb7.mono hs6)
  have hs7 := Hb7.out.size
  clear hb7 HL Hb6 HM6 hs6
  have Hat := Lib.hid (atX HM7.out)
  have Hop := Lib.hid (openX HM7.out (by show 1 ≤ _; omega))
  go_wp2_with fail
  refine Hat.out.mono ?_
  rintro e w' ⟨rfl, rfl⟩
  have a2a : Ig.a2.at_ = 3 := rfl
  rw [a2a]
  go_wp2_with fail
  refine Hop.out.mono ?_
  rintro e w8 ⟨v8, rfl, hown8, hb8⟩
  obtain ⟨A8, c8, rfl, _, hr8⟩ := own_slice hown8
  have a2o : Ig.a2.opn.length = 1 := rfl
  have Hr8 : Hid (Reads w8 w8.heap.size 3 A8 [Ig.pt 2 3].length ([Ig.pt 2 3].flatMap pointCells)) := hr8
  have Hb8 : Hid (Below w.heap.size w w8) := Hb7.out.trans (hb8.mono hs7)
  have hs8 := Hb8.out.size
  clear hown8 hb8 hr8
  rw [a2o]
  clear a2o a2a
  go_wp2_with fail
  have hb9 : Below w8.heap.size w8 (w8.alloc (.cells #[.string ⟨#[115]⟩, .int .i64 2, .int .i64 3] 66)) := (Below.refl _ _).alloc (Nat.le_refl _) _
  refine (samePoints_true A8 _ c8 _ [Ig.pt 2 3] _ w8.heap.size (w8.heap.size + 1) (Hr8.out.below hb9) (ig_reads_one w8 2 3) (by simp)).mono ?_
  rintro e w9 ⟨rfl, n9, rfl⟩
  have Hb9 : Hid (Below w.heap.size w (w8.alloc (.cells #[.string ⟨#[115]⟩, .int .i64 2, .int .i64 3] 66))) := Hb8.out.trans (hb9.mono hs8)
  clear hb9
  go_wp2_with fail
  refine (errno_any _ _).mono ?_
  rintro e w' ⟨rfl, rfl⟩
  go_wp2_with fail
  refine (errno_any _ _).mono ?_
  rintro e w' ⟨rfl, rfl⟩
  go_wp2_with fail
  go_ret
  exact ⟨rfl, below_drewN Hb9.out _⟩
end Go.Proofs.YtmnigoibbcigdaaGreat
/- The walk through the law IngestSnaps (chapter 11). -/
namespace Go.Proofs.YtmnigoibbcigdaaGreat
open Go.RowKit
set_option linter.unusedVariables false

theorem snapL_len (m : Ig.M) : (Ig.snapL m).length ≤ 200 + 8 * m.digs.length := by
  unfold Ig.snapL
  have h1 := Wr.putL_len m.at_
  have h2 := Wr.putL_len (m.digs.length : Int)
  have h3 := Ig.textB_size (Se.putR m.rows).1
  have h4 := Ig.putR_size m.rows
  have h5 := tails_le m.digs
  rw [← Wr.len_list] at h3
  simp only [List.length_append]
  omega
end Go.Proofs.YtmnigoibbcigdaaGreat
/- The walk through the law IngestEntries (chapter 11). -/
namespace Go.Proofs.YtmnigoibbcigdaaGreat
open Go.RowKit
set_option linter.unusedVariables false

/-- the pair that was copied, if there is one: no block of it is in F -/
def CopiedOk (w : World) (base : Nat) (cb : Bool) (go gp : Nat) (F : Nat → Prop) : Prop :=
  cb = true → ∃ (mo : Ig.M) (G : Nat → Prop), Duo w base go mo gp mo G ∧ Ig.Inv mo ∧ Ig.Sz mo ∧ ∀ k, F k → ¬ G k
section
variable {w w' : World} {base go gp : Nat} {cb : Bool} {F F' : Nat → Prop}
theorem CopiedOk.below (h : CopiedOk w base cb go gp F) (hb : Below w.heap.size w w') : CopiedOk w' base cb go gp F := fun e => by
  obtain ⟨mo, G, h1, h2, h3, h4⟩ := h e
  exact ⟨mo, G, h1.below hb, h2, h3, h4⟩
theorem CopiedOk.only (h : CopiedOk w base cb go gp F) (ho : Only F w w') (hf : ∀ k, F' k → F k ∨ w.heap.size ≤ k) : CopiedOk w' base cb go gp F' := fun e => by
  obtain ⟨mo, G, h1, h2, h3, h4⟩ := h e
  refine ⟨mo, G, h1.only ho (fun k hk q => h4 k q hk), h2, h3, fun k hk q => ?_⟩
  rcases hf k hk with z | z
  · exact h4 k z q
  · have := (h1.lt q).2; omega
theorem CopiedOk.fresh (h : CopiedOk w base cb go gp F) (hb : Below w.heap.size w w') (hf : ∀ k, F' k → w.heap.size ≤ k) : CopiedOk w' base cb go gp F' := fun e => by
  obtain ⟨mo, G, h1, h2, h3, h4⟩ := h e
  exact ⟨mo, G, h1.below hb, h2, h3, fun k hk q => by have := (h1.lt q).2; have := hf k hk; omega⟩
end
section
variable {w w' w0 : World} {base gm gr : Nat} {ma mb : Ig.M} {F : Nat → Prop} {q : Ent} {g cp gb cap : Nat}
theorem Lent.only (h : Lent w0 w q g cp gb cap) {S : Nat → Prop} (ho : Only S w w') (hs : ∀ k, S k → k < w0.heap.size ∨ w.heap.size ≤ k) : Lent w0 w' q g cp gb cap :=
  ⟨own_only h.row ho (fun k hk e => by have := own_lt h.row hk; rcases hs k e with z | z <;> omega), own_only h.bat ho (fun k hk e => by have := own_lt h.bat hk; rcases hs k e with z | z <;> omega), h.room⟩
theorem Lent.below (h : Lent w0 w q g cp gb cap) (hb : Below w.heap.size w w') : Lent w0 w' q g cp gb cap := h.only (Only.new (fun _ => False) hb) (fun _ e => absurd e id)
theorem Lent.reads (h : Lent w0 w q g cp gb cap) : Reads w w.heap.size 5 (some ⟨g, 0, none⟩) 2 (entCells (q.1, (some ⟨gb, 0, none⟩, (cap, q.2.2.2))) ++ roomEnt) := Reads.of_own h.row
theorem Lent.batch (h : Lent w0 w q g cp gb cap) : Reads w w.heap.size 3 (some ⟨gb, 0, none⟩) (q.2.2.2.length + 2) (q.2.2.2.flatMap pointCells ++ roomPoints) := Reads.of_own h.bat
theorem Lent.pts (h : Lent w0 w q g cp gb cap) : Reads w w.heap.size 3 (some ⟨gb, 0, none⟩) q.2.2.2.length (q.2.2.2.flatMap pointCells) := h.batch.head (flat_length pointCells 3 (fun _ => rfl) _)
theorem Lent.cells (h : Lent w0 w q g cp gb cap) : w.cell? ⟨g, 0, none⟩ = some (.int .i64 q.1.1) ∧ w.cell? ⟨g, 1, none⟩ = some (.int .i64 q.1.2.1) ∧ w.cell? ⟨g, 2, none⟩ = some (.int .i64 q.1.2.2.1) ∧ w.cell? ⟨g, 3, none⟩ = some (.int .i64 q.1.2.2.2) ∧ w.cell? ⟨g, 4, none⟩ = some (.slice (some ⟨gb, 0, none⟩) q.2.2.2.length cap) :=
  ⟨own_cell h.row rfl, own_cell h.row rfl, own_cell h.row rfl, own_cell h.row rfl, own_cell h.row rfl⟩
theorem Lent.cap2 (h : Lent w0 w q g cp gb cap) : 2 ≤ cp := (own_cap h.row).1
theorem Lent.ge (h : Lent w0 w q g cp gb cap) : w0.heap.size ≤ gb ∧ gb < w.heap.size := own_lt h.bat rfl
theorem duo_snap (h : Duo w base gm ma gr mb F) (hI : Ig.Inv mb) : Calls Tryz.prog 11 #[.pointer (some ⟨gr, 0, none⟩)] w (RSnapPost w (Ig.snapR mb)) := by
  obtain ⟨ra, oa, da, sa, rb, ob, db, sb, h1, h2, hd, hF⟩ := h
  have h3 := hI.dl
  have h5 := hI.at1
  have h6 := Se.may_len hI.rows
  exact rsnap_mach h2 hI.at0 hI.at1 (by omega) (by omega) hI.dr
theorem duo_rcopy (h : Duo w base gm ma gr mb F) (hI : Ig.Inv mb) : Calls Tryz.prog 14 #[.pointer (some ⟨gr, 0, none⟩)] w (RCopyPost w mb) := by
  obtain ⟨ra, oa, da, sa, rb, ob, db, sb, h1, h2, hd, hF⟩ := h
  have h1' := Se.may_len hI.rows
  have h2' := Ig.inv_len hI
  have h3 := hI.dl
  have h4 := hI.sl
  have h5 := hI.at1
  exact rcopy_mach h2 (by omega) (by omega) (by omega) (by omega)
end
theorem Ig.inv_loaded {m : Ig.M} (h : Ig.Inv m) : Ig.Inv ⟨m.at_, m.rows, [], m.digs, []⟩ :=
  ⟨h.at0, h.at1, Ig.sorted_nil, by have := h.at0; simp only [List.length_nil]; omega, fun p hp => by simp at hp, h.rows, h.dl, h.dr, by have := h.at0; simp only [List.length_nil]; omega⟩
theorem Ig.sz_loaded (m : Ig.M) : Ig.Sz ⟨m.at_, m.rows, [], m.digs, []⟩ := fun f hf => by simp at hf
/-- what the loop carries -/
structure EntSt (w wr : World) (gm gr go gp : Nat) (cb : Bool) (M : Ig.M) (F : Nat → Prop) : Prop where
  duo : Duo wr w.heap.size gm M gr M F
  inv : Ig.Inv M
  fit : Ig.Fit M
  sz : Ig.Sz M
  cop : CopiedOk wr w.heap.size cb go gp F
  bel : Below w.heap.size w wr
set_option maxRecDepth 100000 in
set_option maxHeartbeats 4000000 in
theorem ingestEntries_walk {w : World} (A0 : Option Addr) (c0 : Nat) (z0 : List Ent) (a1 : Int) (rd0 : Reads w w.heap.size 5 A0 z0.length (z0.flatMap entCells)) (wf0 : ∀ q ∈ z0, EntOk w q) (nb0 : z0.length * 56 ≤ 140737488351232) (sb0 : ∀ q ∈ z0, q.2.2.2.length * 32 ≤ 140737488351232) (cap0 : z0.length ≤ c0 ∧ (A0 = none → z0.length = 0 ∧ c0 = 0)) (w1 : (Lit.int .i64 a1).wf = true) :
    Calls Tryz.prog 3 #[.slice A0 z0.length c0, .int .i64 a1] w fun e w' => e = .returned (.bool true) ∧ Below w.heap.size w w' := by
  have HC0 := Lib.hid (ent_cells rd0)
  have HE0 := Lib.hid (fun (j : Nat) (hj : j < z0.length) => And.intro (ent_pts (wf0 z0[j] (List.getElem_mem hj))) (sb0 z0[j] (List.getElem_mem hj)))
  have hcap0 := cap0.1
  clear rd0 wf0 sb0 cap0 w1
  go_enter Tryz.func3, Tryz.ntmps3
  go_wp2_with fail
  refine (machNew_any w).mono ?_
  rintro e w2 ⟨rfl, hm2, hb2⟩
  have HD3 : Hid (∃ F, Duo (w2.alloc (.cells #[.int .i64 0, .slice none 0 0, .slice none 0 0, .slice none 0 0, .slice none 0 0] 31)) w.heap.size w.heap.size Ig.m0 w2.heap.size Ig.m0 F) := by
    have hR : RMach (w2.alloc (.cells #[.int .i64 0, .slice none 0 0, .slice none 0 0, .slice none 0 0, .slice none 0 0] 31)) w2.heap.size w2.heap.size Ig.m0 (.slice none 0 0) (.slice none 0 0) (.slice none 0 0) (.slice none 0 0) :=
      ⟨Blk.new w2 _ _, Nat.le_refl _, own_nil _ _ _ _, own_nil _ _ _ _, own_nil _ _ _ _, own_nil _ _ _ _⟩
    obtain ⟨F, h, _⟩ := Duo.new hb2.size hm2 hR ((Below.refl _ _).alloc (Nat.le_refl _) _)
    exact ⟨F, h⟩
  have Hb3 : Hid (Below w.heap.size w (w2.alloc (.cells #[.int .i64 0, .slice none 0 0, .slice none 0 0, .slice none 0 0, .slice none 0 0] 31))) := hb2.alloc hb2.size _
  clear hm2 hb2
  go_wp2_with fail
  obtain ⟨F0, hD3⟩ := HD3.out
  generalize w2.alloc (.cells #[.int .i64 0, .slice none 0 0, .slice none 0 0, .slice none 0 0, .slice none 0 0] 31) = w3 at *
  have HS0 : Hid (EntSt w w3 w.heap.size w2.heap.size w.heap.size w2.heap.size false Ig.m0 F0) := ⟨hD3, Ig.inv0, by show Ig.m0.rows.all Se.fitsB = true; rfl, Ig.sz0, (fun e => by cases e), Hb3.out⟩
  clear hD3 HD3 Hb3
  go_loopw [5, 6, 7, 8, 9, 10, 11, 12, 13, 14, 15, 16, 17, 18, 19, 20, 21, 22, 23] (fun m r o p cp i _ _ _ _ _ _ _ _ _ _ _ _ _ wr => ∃ (j gm gr go gp : Nat) (cb : Bool) (M : Ig.M) (F : Nat → Prop), j ≤ 60 ∧ i = .int .i64 (j : Int) ∧ m = .pointer (some ⟨gm, 0, none⟩) ∧ r = .pointer (some ⟨gr, 0, none⟩) ∧ o = .pointer (some ⟨go, 0, none⟩) ∧ p = .pointer (some ⟨gp, 0, none⟩) ∧ cp = .bool cb ∧ Hid (EntSt w wr gm gr go gp cb M F)) (fun _ _ _ _ _ i _ _ _ _ _ _ _ _ _ _ _ _ _ _ => 60 - (intOf i).toNat)
  case atStart => exact ⟨0, _, _, _, _, false, Ig.m0, F0, by omega, rfl, rfl, rfl, rfl, rfl, rfl, HS0⟩
  case round =>
    obtain ⟨j, gm, gr, go, gp, cb, M, F, hj, rfl, rfl, rfl, rfl, rfl, rfl, hSt⟩ := hrel
    by_cases hlt : j < z0.length ∧ j < 60
    · obtain ⟨hl1, hl2⟩ := hlt
      have hd1 : decide (j < z0.length) = true := decide_eq_true hl1
      have hd2 : decide ((j : Int) < 60) = true := decide_eq_true (by omega)
      have hd3 : decide ((j : Int) < (z0.length : Int)) = true := decide_eq_true (by omega)
      obtain ⟨bd, off, rfl, hbd, x0, x1, x2, x3, x4⟩ := HC0.out j hl1
      obtain ⟨⟨hrp, hwp⟩, hnp⟩ := HE0.out j hl1
      clear HC0 HE0
      generalize z0[j] = q at *
      obtain ⟨⟨v, c, s, n⟩, EA, ec, bs⟩ := q
      simp only at x0 x1 x2 x3 x4 hrp hwp hnp
      have HX : Hid (∀ W, Below w.heap.size w W → W.cell? ⟨bd, off + j * 5, none⟩ = some (.int .i64 v) ∧ W.cell? ⟨bd, off + j * 5 + 1, none⟩ = some (.int .i64 c) ∧ W.cell? ⟨bd, off + j * 5 + 2, none⟩ = some (.int .i64 s) ∧ W.cell? ⟨bd, off + j * 5 + 3, none⟩ = some (.int .i64 n) ∧ W.cell? ⟨bd, off + j * 5 + 4, none⟩ = some (.slice EA bs.length ec)) := fun W hb =>
        ⟨(hb.cell (p := ⟨bd, off + j * 5, none⟩) hbd).trans x0, (hb.cell (p := ⟨bd, off + j * 5 + 1, none⟩) hbd).trans x1, (hb.cell (p := ⟨bd, off + j * 5 + 2, none⟩) hbd).trans x2, (hb.cell (p := ⟨bd, off + j * 5 + 3, none⟩) hbd).trans x3, (hb.cell (p := ⟨bd, off + j * 5 + 4, none⟩) hbd).trans x4⟩
      have HRE : Hid (∀ W, Below w.heap.size w W → Reads W w.heap.size 5 (some ⟨bd, off + j * 5, none⟩) 1 (entCells ((v, c, s, n), (EA, ec, bs)))) := fun W hb => by
        refine ⟨rfl, fun _ => ⟨bd, off + j * 5, rfl, hbd, fun i u hu => ?_⟩⟩
        obtain ⟨y0, y1, y2, y3, y4⟩ := HX.out W hb
        have hi : i < 5 := by
          rcases Nat.lt_or_ge i 5 with h | h
          · exact h
          · rw [List.getElem?_eq_none (by simpa [entCells] using h)] at hu; cases hu
        rcases (by omega : i = 0 ∨ i = 1 ∨ i = 2 ∨ i = 3 ∨ i = 4) with rfl | rfl | rfl | rfl | rfl <;> (simp [entCells] at hu; subst hu; assumption)
      have HRP : Hid (∀ W, Below w.heap.size w W → Reads W w.heap.size 3 EA bs.length (bs.flatMap pointCells)) := fun W hb => hrp.below hb
      have HWP := Lib.hid hwp
      have hsw := hSt.out.bel.size
      have HL := Lib.hid (lendEntries_one (some ⟨bd, off + j * 5, none⟩) (c0 - j) ((v, c, s, n), (EA, ec, bs)) wr w.heap.size (HRE.out _ hSt.out.bel) (HRP.out _ hSt.out.bel) hsw hnp)
      have HNF : Hid (∀ k, F k → k < wr.heap.size) := fun k hk => (hSt.out.duo.lt hk).2
      clear hrp hwp x0 x1 x2 x3 x4
      go_wp2_with fail
      refine HL.out.mono ?_
      rintro e w5 ⟨gx, cpx, gb, capx, rfl, hLn, hb5⟩
      have HLn := Lib.hid hLn
      have hS5 : EntSt w w5 gm gr go gp cb M F := ⟨hSt.out.duo.below hb5, hSt.out.inv, hSt.out.fit, hSt.out.sz, hSt.out.cop.below hb5, hSt.out.bel.trans (hb5.mono hsw)⟩
      have HS5 := Lib.hid hS5
      have hs5 := hb5.size
      obtain ⟨l0, l1, l2, l3, l4⟩ := hLn.cells
      simp only at l0 l1 l2 l3 l4
      have hge := hLn.ge.1
      have Hgx5 : Hid (gx < w5.heap.size ∧ gb < w5.heap.size) := ⟨(own_lt hLn.row rfl).2, hLn.ge.2⟩
      have HIn := Lib.hid (Ig.inv_apply hS5.inv v c s n bs)
      have HFt := Lib.hid (Ig.fit_apply hS5.inv hS5.fit v c s n bs)
      have HSz := Lib.hid (Ig.sz_apply hS5.sz v c s n bs)
      have HA := Lib.hid (duo_apply hS5.duo hS5.inv v c s n (some ⟨gb, 0, none⟩) capx bs hLn.pts HWP.out (by omega) (fun _ b o e q => by
        injection e with e; injection e with e1 _ _
        have := HNF.out b q; omega) hS5.bel.size)
      have HIM := Lib.hid hS5.inv
      clear hLn hb5 hS5 hSt HL
      generalize hqq : Ig.applyM M v c s n bs = qq at *
      have Hqq := Lib.hid hqq
      clear hqq
      obtain ⟨M2, v2, c2⟩ := qq
      simp only at HIn HFt HSz HA
      go_wp2_with fail
      refine HA.out.mono ?_
      rintro e w6 ⟨rfl, F6, hD6, ho6, hf6⟩
      have HD6 := Lib.hid hD6
      have Hb6 : Hid (Below w.heap.size w w6) := HS5.out.bel.trans (ho6.below (fun k hk q => by have := (HS5.out.duo.lt q).1; omega) HS5.out.bel.size)
      have HC6 := Lib.hid (HS5.out.cop.only ho6 hf6)
      have HLn6 := Lib.hid (HLn.out.only ho6 (fun k hk => .inl (HNF.out k hk)))
      have HNF6 : Hid (∀ k, F6 k → k < wr.heap.size ∨ w5.heap.size ≤ k) := fun k hk => by
        rcases hf6 k hk with z | z
        · exact .inl (HNF.out k z)
        · exact .inr z
      have hs6 := ho6.size
      have hs6' := Hb6.out.size
      obtain ⟨y0, y1, y2, y3, y4⟩ := HX.out w6 Hb6.out
      have HB := Lib.hid (duo_rapply hD6 HIM.out v c s n EA ec bs ((HRP.out w6 Hb6.out).more hs6') HWP.out (by omega) (fun h0 b o e q => by
        obtain ⟨b', o', e', hb', _⟩ := (HRP.out w6 Hb6.out).2 h0
        rw [e] at e'; injection e' with e'; injection e' with e1 _ _
        have := (hD6.lt q).1; omega) hs6')
      rw [Hqq.out] at HB
      simp only at HB
      clear HA hD6 ho6 hf6 HS5 HLn HNF HIM Hqq l0 l1 l2 l3 l4
      go_wp2_with fail
      refine HB.out.mono ?_
      rintro e w7 ⟨rfl, F7, hD7, ho7, hf7⟩
      have HD7 := Lib.hid hD7
      have Hb7 : Hid (Below w.heap.size w w7) := Hb6.out.trans (ho7.below (fun k hk q => by have := (HD6.out.lt q).1; omega) hs6')
      have HC7 := Lib.hid (HC6.out.only ho7 hf7)
      have HLn7 : Hid (Lent wr w7 ((v, c, s, n), (EA, ec, bs)) gx cpx gb capx) := ⟨own_only HLn6.out.row ho7 (fun k hk q => by
          have h1 := own_lt HLn6.out.row hk
          have h2 : gx = k := by simpa [Value.ownBlock] using hk
          have h3 := Hgx5.out
          rcases HNF6.out k q with z | z <;> omega), own_only HLn6.out.bat ho7 (fun k hk q => by
          have h1 := own_lt HLn6.out.bat hk
          have h2 : gb = k := by simpa [Value.ownBlock] using hk
          have h3 := Hgx5.out
          rcases HNF6.out k q with z | z <;> omega), HLn6.out.room⟩
      clear HB hD7 ho7 hf7 HD6 HC6 HLn6 HNF6 Hb6 y0 y1 y2 y3 y4 hs6 hs6' hs5
      have hq1 : (v2 != v2) = false := by simp
      have hq2 : (c2 != c2) = false := by simp
      go_wp2_with fail
      refine (same_duo HD7.out HIn.out HSz.out).mono ?_
      rintro e w8 ⟨rfl, hb8⟩
      have HD8 := Lib.hid (HD7.out.below hb8)
      have HC8 := Lib.hid (HC7.out.below hb8)
      have HLn8 := Lib.hid (HLn7.out.below hb8)
      have Hb8 : Hid (Below w.heap.size w w8) := Hb7.out.trans (hb8.mono Hb7.out.size)
      have hs8 := Hb8.out.size
      clear hb8 HD7 HC7 HLn7 Hb7
      have HK := Lib.hid (keptEntries_one (some ⟨bd, off + j * 5, none⟩) (c0 - j) gx cpx gb capx ((v, c, s, n), (EA, ec, bs)) w8 0 HLn8.out.reads HLn8.out.cap2 HLn8.out.batch HLn8.out.room ((HRE.out w8 Hb8.out).more hs8) ((HRP.out w8 Hb8.out).more hs8) (by simp only; omega))
      go_wp2_with fail
      refine HK.out.mono ?_
      rintro e w9 ⟨rfl, hb9⟩
      have HD9 := Lib.hid (HD8.out.below hb9)
      have HC9 := Lib.hid (HC8.out.below hb9)
      have Hb9 : Hid (Below w.heap.size w w9) := Hb8.out.trans (hb9.mono hs8)
      clear hb9 HD8 HC8 HLn8 Hb8 hs8 HK HX HRE HRP HWP
      have HSn := Lib.hid (snapX HD9.out.mach HIn.out)
      have HSr := fun W (hb : Below w9.heap.size w9 W) => Lib.hid (duo_snap (HD9.out.below hb) HIn.out)
      unfold SnapPost at HSn
      unfold RSnapPost at HSr
      generalize hsn : Ig.snapR M2 = sn at *
      have Hsn := Lib.hid hsn
      clear hsn
      obtain ⟨S, cd⟩ := sn
      simp only at HSn HSr
      have hss : (S.toList == S.toList) = true := by simp
      have hcd : (cd != cd) = false := by simp
      go_wp2_with fail
      refine HSn.out.mono ?_
      rintro e w10 ⟨rfl, hb10⟩
      have Hb910 := Lib.hid hb10
      go_wp2_with fail
      refine (HSr w10 Hb910.out).out.mono ?_
      rintro e w11 ⟨rfl, hb11⟩
      have Hb911 : Hid (Below w9.heap.size w9 w11) := Hb910.out.trans (hb11.mono Hb910.out.size)
      have HD11 := Lib.hid (HD9.out.below Hb911.out)
      have HC11 := Lib.hid (HC9.out.below Hb911.out)
      have Hb11 : Hid (Below w.heap.size w w11) := Hb9.out.trans (Hb911.out.mono Hb9.out.size)
      clear hb10 hb11 Hb910 Hb911 HSn HSr HD9 HC9 Hb9
      go_wp2_with fail
      refine (errno_any _ _).mono ?_
      rintro e w' ⟨rfl, rfl⟩
      go_upto_region 17 with fail
      go_upto_if 109 with fail
      go_cut [7, 8, 9] (fun o p cp wx => ∃ (go' gp' : Nat) (cb' : Bool), o = .pointer (some ⟨go', 0, none⟩) ∧ p = .pointer (some ⟨gp', 0, none⟩) ∧ cp = .bool cb' ∧ Hid (EntSt w wx gm gr go' gp' cb' M2 F7))
      case first =>
        cases hb : ((j : Int) % 16 == bits .and .i64 a1 15)
        · have HSt : Hid (EntSt w w11 gm gr go gp cb M2 F7) := ⟨HD11.out, HIn.out, HFt.out, HSz.out, HC11.out, Hb11.out⟩
          clear HD11 HIn HFt HSz HC11 Hb11 Hsn
          go_wp2_with fail
          go_meet
          exact ⟨go, gp, cb, rfl, rfl, rfl, HSt⟩
        · have HCp := Lib.hid (copyX HD11.out.mach HIn.out)
          have HCr := fun W (hb : Below w11.heap.size w11 W) => Lib.hid (duo_rcopy (HD11.out.below hb) HIn.out)
          clear Hsn
          go_wp2_with fail
          refine HCp.out.mono ?_
          rintro e w12 ⟨go', va, vb, vc, vd, rfl, hm12, hb12⟩
          have Hm12 := Lib.hid hm12
          have Hb12 := Lib.hid hb12
          clear hm12 hb12
          go_wp2_with fail
          refine (HCr w12 Hb12.out).out.mono ?_
          rintro e w13 ⟨gp', va', vb', vc', vd', rfl, hm13, hb13⟩
          have HSt : Hid (EntSt w w13 gm gr go' gp' true M2 F7) := by
            obtain ⟨G, hG, hge⟩ := Duo.new Hb12.out.size Hm12.out hm13 hb13
            have hb := Hb12.out.trans (hb13.mono Hb12.out.size)
            refine ⟨HD11.out.below hb, HIn.out, HFt.out, HSz.out, fun _ => ⟨M2, G, hG.down Hb11.out.size, HIn.out, HSz.out, fun k hk q => ?_⟩, Hb11.out.trans (hb.mono Hb11.out.size)⟩
            have := (HD11.out.lt hk).2
            have := hge k q
            omega
          clear HD11 HIn HFt HSz HC11 Hb11 HCp HCr Hm12 Hb12 hm13 hb13
          go_wp2_with fail
          go_meet
          exact ⟨go', gp', true, rfl, rfl, rfl, HSt⟩
      case rest =>
        obtain ⟨go', gp', cb', rfl, rfl, rfl, HSt⟩ := hcut
        generalize wc = w14 at *
        clear HD11 HC11 Hb11 HIn HFt HSz hq1 hq2
        have h8c : (M2.at_ % 8 = 0 ∧ cd = 0 ∧ S.data.toList = Ig.snapL M2) ∨ (¬ M2.at_ % 8 = 0 ∧ cd = 1100) := by
          by_cases h8 : M2.at_ % 8 = 0
          · left
            have := Hsn.out
            rw [Ig.snap_yes (by omega)] at this
            injection this with e1 e2
            exact ⟨h8, e2.symm, by rw [← e1]⟩
          · right
            have := Hsn.out
            rw [Ig.snap_no h8] at this
            injection this with e1 e2
            exact ⟨h8, e2.symm⟩
        have hcs : (cd = 1100 ∨ (cd = 0 ∧ (bits .and .i64 a1 16 == 16) = false)) ∨ (cd = 0 ∧ (bits .and .i64 a1 16 == 16) = true ∧ M2.at_ % 8 = 0 ∧ S.data.toList = Ig.snapL M2) := by
          rcases h8c with ⟨h1, h2, h3⟩ | ⟨h1, h2⟩
          · cases hb : (bits .and .i64 a1 16 == 16)
            · exact .inl (.inr ⟨h2, rfl⟩)
            · exact .inr ⟨h2, rfl, h1, h3⟩
          · exact .inl (.inl h2)
        clear h8c Hsn
        rcases hcs with hno | ⟨rfl, hb16, h8, hsl⟩
        · rcases hno with rfl | ⟨rfl, hb16⟩
          all_goals
            go_wp2_with fail
            go_roundw
            case rel => exact ⟨j + 1, gm, gr, go', gp', cb', M2, F7, by omega, by go_num, rfl, rfl, rfl, rfl, rfl, HSt⟩
            case measure => simp [intOf]; omega
        · have hssz : S.size ≤ 140737488355328 := by
            have h1 := snapL_len M2
            have h2 := HSt.out.inv.dl
            have h3 := HSt.out.inv.at1
            rw [← hsl, Wr.len_list] at h1
            omega
          have hSeq : S = ⟨(Ig.snapL M2).toArray⟩ := Wr.ext_list (by rw [hsl])
          have KL := fun W => Lib.hid (load_any S W hssz)
          have hld := Ig.load_snap HSt.out.inv HSt.out.fit h8
          rw [← hSeq] at hld
          rw [hld] at KL
          have KR := fun W => Lib.hid (rload_mach HSt.out.inv HSt.out.fit h8 S hsl W)
          clear hld hSeq hsl hssz
          have H8 := Lib.hid h8
          clear h8
          go_wp2_with fail
          refine (KL _).out.mono ?_
          rintro e w15 ⟨gm', va, vb, rfl, hm15, hb15⟩
          have Hm15 := Lib.hid hm15
          have Hb15 := Lib.hid hb15
          clear hm15 hb15 KL
          go_wp2_with fail
          refine (KR _).out.mono ?_
          rintro e w16 ⟨gr', va', vb', rfl, hm16, hb16'⟩
          obtain ⟨F', hF', hge⟩ := Duo.new Hb15.out.size Hm15.out hm16 hb16'
          have hb1416 := Hb15.out.trans (hb16'.mono Hb15.out.size)
          have HSt' : Hid (EntSt w w16 gm' gr' go' gp' cb' ⟨M2.at_, M2.rows, [], M2.digs, []⟩ F') :=
            ⟨hF'.down HSt.out.bel.size, Ig.inv_loaded HSt.out.inv, HSt.out.fit, Ig.sz_loaded M2, HSt.out.cop.fresh hb1416 hge, HSt.out.bel.trans (hb1416.mono HSt.out.bel.size)⟩
          clear hF' hge hb1416 Hm15 Hb15 hm16 hb16' KR HSt
          go_wp2_with fail
          refine (errno_any _ _).mono ?_
          rintro e w' ⟨rfl, rfl⟩
          go_wp2_with fail
          refine (same_duo HSt'.out.duo HSt'.out.inv HSt'.out.sz).mono ?_
          rintro e w17 ⟨rfl, hb17⟩
          have HSt2 : Hid (EntSt w w17 gm' gr' go' gp' cb' ⟨M2.at_, M2.rows, [], M2.digs, []⟩ F') :=
            ⟨HSt'.out.duo.below hb17, HSt'.out.inv, HSt'.out.fit, HSt'.out.sz, HSt'.out.cop.below hb17, HSt'.out.bel.trans (hb17.mono HSt'.out.bel.size)⟩
          clear hb17 HSt'
          go_wp2_with fail
          go_roundw
          case rel => exact ⟨j + 1, gm', gr', go', gp', cb', _, F', by omega, by go_num, rfl, rfl, rfl, rfl, rfl, HSt2⟩
          case measure => simp [intOf]; omega
    · have hend : (decide (j < z0.length) = false ∧ decide ((j : Int) < (z0.length : Int)) = false) ∨ (decide (j < z0.length) = true ∧ decide ((j : Int) < (z0.length : Int)) = true ∧ decide ((j : Int) < 60) = false) := by
        by_cases h : j < z0.length
        · exact .inr ⟨decide_eq_true h, decide_eq_true (by omega), decide_eq_false (by omega)⟩
        · exact .inl ⟨decide_eq_false h, decide_eq_false (by omega)⟩
      clear hlt HC0 HE0 HS0
      have Hb := Lib.hid hSt.out.bel
      have HSame : Hid (cb = true → Calls Tryz.prog 8 #[.pointer (some ⟨go, 0, none⟩), .pointer (some ⟨gp, 0, none⟩)] wr fun e w' => e = .returned (.bool true) ∧ Below wr.heap.size wr w') := fun e => by
        obtain ⟨mo, G, h1, h2, h3, _⟩ := hSt.out.cop e
        exact same_duo h1 h2 h3
      clear hSt
      rcases hend with ⟨hd1, hd3⟩ | ⟨hd1, hd3, hd2⟩ <;> cases cb
      all_goals
        first
          | (have HSm := Lib.hid (HSame.out rfl)
             clear HSame
             go_wp2_with fail
             refine HSm.out.mono ?_
             rintro e w5 ⟨rfl, hb5⟩
             have Hb5 := Lib.hid (Hb.out.trans (hb5.mono Hb.out.size))
             clear Hb hb5 HSm
             go_wp2_with fail
             refine (awake11 _).mono ?_
             rintro e w6 ⟨rfl, hb6⟩
             have Hb6 := Lib.hid (Hb5.out.trans (hb6.mono Hb5.out.size))
             clear hb6
             go_wp2_with fail
             go_ret
             exact ⟨rfl, Hb6.out⟩)
          | (clear HSame
             go_wp2_with fail
             refine (awake11 _).mono ?_
             rintro e w6 ⟨rfl, hb6⟩
             have Hb6 := Lib.hid (Hb.out.trans (hb6.mono Hb.out.size))
             clear hb6
             go_wp2_with fail
             go_ret
             exact ⟨rfl, Hb6.out⟩)
end Go.Proofs.YtmnigoibbcigdaaGreat
