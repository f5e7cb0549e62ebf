/- Two machines in memory, apart; what an entry does to two machines that differ in their seals alone (chapter 11). -/
import Derived.Test.YtapdlmiioljpgaaK11
import Derived.Test.YtapdlmiioljpgaaK12
import Derived.Test.YtapdlmiioljpgaaKIgSnapP
namespace Go.Proofs.Ytapdlmiioljpgaa
open Go.RowKit
set_option linter.unusedVariables false

/-- two machines in memory, no block of the one is the other's -/
def Two (w : World) (base ga : Nat) (ma : Ig.M) (gb : Nat) (mb : Ig.M) : Prop :=
  ∃ ra oa da sa rb ob db sb, Mach w base ga ma ra oa da sa ∧ Mach w base gb mb rb ob db sb ∧ ∀ k, Foot ga ra oa da sa k → ¬ Foot gb rb ob db sb k
theorem Mach.down {w : World} {base base' g : Nat} {m : Ig.M} {vr vo vd vs : Value} (h : Mach w base g m vr vo vd vs) (hb : base' ≤ base) : Mach w base' g m vr vo vd vs :=
  ⟨h.blk, Nat.le_trans hb h.low, own_down h.rows hb, own_down h.opn hb, own_down h.digs hb, own_down h.seals hb⟩
section
variable {w w' : World} {base ga gb : Nat} {ma mb : Ig.M}
theorem Two.symm (h : Two w base ga ma gb mb) : Two w base gb mb ga ma := by
  obtain ⟨ra, oa, da, sa, rb, ob, db, sb, ha, hb, hd⟩ := h
  exact ⟨rb, ob, db, sb, ra, oa, da, sa, hb, ha, fun k h1 h2 => hd k h2 h1⟩
theorem Two.below (h : Two w base ga ma gb mb) (hb : Below w.heap.size w w') : Two w' base ga ma gb mb := by
  obtain ⟨ra, oa, da, sa, rb, ob, db, sb, h1, h2, hd⟩ := h
  exact ⟨ra, oa, da, sa, rb, ob, db, sb, h1.below hb, h2.below hb, hd⟩
theorem Two.fst (h : Two w base ga ma gb mb) : MachX w base ga ma (fun _ => False) := by
  obtain ⟨ra, oa, da, sa, rb, ob, db, sb, h1, h2, hd⟩ := h
  exact ⟨ra, oa, da, sa, h1, fun _ _ q => q⟩
theorem Two.snd (h : Two w base ga ma gb mb) : MachX w base gb mb (fun _ => False) := h.symm.fst
/-- an entry is applied to the first -/
def TwoPost (w : World) (base ga gb : Nat) (mb : Ig.M) (q : Ig.M × Int × Int) (e : Ending) (w' : World) : Prop :=
  e = .returned (.tuple #[.int .i64 q.2.1, .int .i64 q.2.2]) ∧ Two w' base ga q.1 gb mb ∧ Below base w w'
theorem applyT (h : Two w base ga ma gb mb) (hI : Ig.Inv ma) (v c s n : Int) (A : Option Addr) (d : Nat) (bs : List Pt.Point) (hr : Reads w w.heap.size 3 A bs.length (bs.flatMap pointCells)) (hwf : ∀ p ∈ bs, Pt.wf p) (hn : bs.length ≤ 140737488355328) (hA : 0 < bs.length → ∀ b off, A = some ⟨b, off, none⟩ → b < base) (hbase : base ≤ w.heap.size) :
    Calls Try.prog 38 #[.pointer (some ⟨ga, 0, none⟩), .agg #[.int .i64 v, .int .i64 c, .int .i64 s, .int .i64 n, .slice A bs.length d]] w (TwoPost w base ga gb mb (Ig.applyM ma v c s n bs)) := by
  obtain ⟨ra, oa, da, sa, rb, ob, db, sb, h1, h2, hd⟩ := h
  refine (apply_mach h1 hI v c s n A d bs hr (fun h0 b off e q => by have := (h1.lt q).1; have := hA h0 b off e; omega) hwf hn hbase).mono fun e w' h => ?_
  obtain ⟨vr', vo', vd', vs', he, hm', ho, hf⟩ := h
  refine ⟨he, ⟨vr', vo', vd', vs', rb, ob, db, sb, hm', h2.only ho (fun k hk q => hd k q hk), fun k hk q => ?_⟩, ho.below (fun k hk q => by have := (h1.lt q).1; omega) hbase⟩
  rcases hf k hk with z | z
  · exact hd k z q
  · have := (h2.lt q).2; omega
/-- the second is loaded anew -/
theorem Two.loaded (h : Two w base ga ma gb mb) {g : Nat} {m : Ig.M} {vr vd : Value} (hm : Mach w' w.heap.size g m vr (.slice none 0 0) vd (.slice none 0 0)) (hb : Below w.heap.size w w') (hbase : base ≤ w.heap.size) : Two w' base ga ma g m := by
  obtain ⟨ra, oa, da, sa, rb, ob, db, sb, h1, h2, hd⟩ := h
  refine ⟨ra, oa, da, sa, vr, _, vd, _, h1.below hb, hm.down hbase, fun k hk q => ?_⟩
  have := (h1.lt hk).2
  have := (hm.lt q).1
  omega
end
theorem twoNew {w w1 w2 : World} (h1 : MachX w1 w.heap.size w.heap.size Ig.m0 (fun _ => False)) (hb : Below w.heap.size w w1) (h2 : MachX w2 w1.heap.size w1.heap.size Ig.m0 (fun _ => False)) (hb2 : Below w1.heap.size w1 w2) : Two w2 w.heap.size w.heap.size Ig.m0 w1.heap.size Ig.m0 := by
  obtain ⟨ra, oa, da, sa, ha, _⟩ := h1
  obtain ⟨rb, ob, db, sb, hb', _⟩ := h2
  refine ⟨ra, oa, da, sa, rb, ob, db, sb, ha.below hb2, hb'.down hb.size, fun k hk q => ?_⟩
  have := (ha.lt hk).2
  have := (hb'.lt q).1
  omega
namespace Ig
def withS (m : M) (s : List (Int × ByteArray)) : M := ⟨m.at_, m.rows, m.opn, m.digs, s⟩
theorem take_withS (m : M) (s0 : List (Int × ByteArray)) (v c s n : Int) (bs : List Pt.Point) : takeM (withS m s0) v c s n bs = (withS (takeM m v c s n bs).1 s0, (takeM m v c s n bs).2) ∧ (takeM m v c s n bs).1.seals = m.seals ∧ (takeM m v c s n bs).1.digs = m.digs := by
  unfold takeM withS
  split <;> exact ⟨rfl, rfl, rfl⟩
/-- the same entry, applied to a machine without seals and to one with some -/
theorem apply_withS (m : M) (s0 : List (Int × ByteArray)) (v c s n : Int) (bs : List Pt.Point) (h0 : m.seals = []) : applyM (withS m s0) v c s n bs = (withS (applyM m v c s n bs).1 (s0 ++ (applyM m v c s n bs).1.seals), (applyM m v c s n bs).2) := by
  unfold applyM
  have hat : (withS m s0).at_ = m.at_ := rfl
  rw [hat]
  split
  · rw [h0]; simp
  · have hu : up (withS m s0) = withS (up m) s0 := rfl
    obtain ⟨h1, h2, h3⟩ := take_withS (up m) s0 v c s n bs
    rw [hu, h1]
    simp only
    have h2' : (takeM (up m) v c s n bs).1.seals = [] := by rw [h2]; exact h0
    split
    · refine Prod.ext ?_ rfl
      show sealM _ = withS (sealM _) _
      unfold sealM withS segB
      simp only [h2', List.nil_append]
    · refine Prod.ext ?_ rfl
      show withS _ _ = withS _ _
      simp only [h2', List.append_nil]
theorem apply_noseal {m : M} (v c s n : Int) (bs : List Pt.Point) (h0 : m.seals = []) (h : m.at_ < 4096) (h8 : ¬ (m.at_ + 1) % 8 = 0) : (applyM m v c s n bs).1.seals = [] ∧ (applyM m v c s n bs).1.digs = m.digs := by
  obtain ⟨_, h2, h3⟩ := take_withS (up m) [] v c s n bs
  rw [apply_open v c s n bs h h8]
  exact ⟨h2.trans h0, h3⟩
theorem apply_sealed {m : M} (v c s n : Int) (bs : List Pt.Point) (h0 : m.seals = []) (h : m.at_ < 4096) (h8 : (m.at_ + 1) % 8 = 0) : ∃ r S, (applyM m v c s n bs).1.seals = [(r, S)] ∧ (applyM m v c s n bs).1.digs = m.digs ++ [(Sm.hashL S.data.toList : Int)] ∧ (applyM m v c s n bs).1.opn = [] ∧ S.size ≤ maxLen := by
  obtain ⟨_, h2, h3⟩ := take_withS (up m) [] v c s n bs
  rw [apply_seal (by omega) h8]
  refine ⟨(takeM (up m) v c s n bs).1.at_ / 8, segB (takeM (up m) v c s n bs).1, ?_, ?_, rfl, putR_small _ _⟩
  · show (takeM (up m) v c s n bs).1.seals ++ _ = _
    rw [h2]
    show m.seals ++ _ = _
    rw [h0]; rfl
  · show (takeM (up m) v c s n bs).1.digs ++ _ = _
    rw [h3]; rfl
end Ig
end Go.Proofs.Ytapdlmiioljpgaa
