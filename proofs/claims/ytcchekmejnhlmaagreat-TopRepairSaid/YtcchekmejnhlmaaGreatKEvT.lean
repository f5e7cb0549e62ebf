/- Joined texts. -/
import Derived.Test.YtcchekmejnhlmaaGreatK5
import Derived.Test.YtcchekmejnhlmaaGreatK6
import Derived.Test.YtcchekmejnhlmaaGreatKEvY
namespace Go.Proofs.YtcchekmejnhlmaaGreat
namespace Ev
open Go.RowKit
noncomputable section
set_option linter.unusedVariables false
/-- one summary more -/
def addS (fid : Nat) (f : List V → HT → Nat → Rs) (S : SumT) : SumT := fun i => cnd (Nat.beq i fid) (some f) (S i)
def noSum : SumT := fun _ => none
theorem noSum_ok {P : Program} : SumOk P noSum := fun fid f h => by cases h
theorem addS_ok {P : Program} {fid : Nat} {f : List V → HT → Nat → Rs} {S : SumT} (hf : FnOk P fid) (h : SumOk1 P fid f) (hS : SumOk P S) : SumOk P (addS fid f S) := by
  intro i g hi
  unfold addS at hi
  cases hb : Nat.beq i fid with
  | true =>
    rw [hb] at hi
    cases hi
    have e := nbeq_eq hb
    subst e
    intro args H n v H' n' hr
    exact ⟨hf, h args H n v H' n' hr⟩
  | false =>
    rw [hb] at hi
    exact hS i g hi
theorem follows : Tryz.prog.follows .mixedOrders = true := by kernel_rfl
theorem noGor : Tryz.prog.funcs.all (fun fn => !(fn.name == "runtime.NumGoroutine")) = true := by kernel_rfl
theorem hgn : ∀ (fid : Nat) (fn : Func), Tryz.prog.funcs[fid]? = some fn → fn.body.isNone = false → (fn.name == "runtime.NumGoroutine") = false := fun fid fn h _ => by
  obtain ⟨h1, h2⟩ := Array.getElem?_eq_some_iff.1 h
  have := Array.all_eq_true.1 noGor fid h1
  rw [h2] at this
  simpa using this
/-- the summaries of the library's functions -/
def S00 : SumT := addS 130 (sbW bT bU) <| addS 134 (sbS bT bU) <| addS 168 sSync <| addS 117 (sSort 181) <|
  addS 133 sHash <| addS 140 sPutNum <| addS 86 sBatch <| addS 144 sMayEntry <| addS 87 sMayLog <| addS 324 sCmp <|
  addS 167 sPut8 <| addS 197 sPut8 <| addS 72 sRep noSum
theorem S00_ok : SumOk Tryz.prog S00 :=
  addS_ok ⟨_, Tryz.func130, by kernel_rfl, by kernel_rfl⟩ sbW_ok <|
  addS_ok ⟨_, Tryz.func134, by kernel_rfl, by kernel_rfl⟩ sbS_ok <|
  addS_ok ⟨_, Tryz.func168, by kernel_rfl, by kernel_rfl⟩ sSync_ok <|
  addS_ok ⟨_, Tryz.func117, by kernel_rfl, by kernel_rfl⟩ sSort_ok <|
  addS_ok ⟨_, Tryz.func133, by kernel_rfl, by kernel_rfl⟩ sHash_ok <|
  addS_ok ⟨_, Tryz.func140, by kernel_rfl, by kernel_rfl⟩ sPutNum_ok <|
  addS_ok ⟨_, Tryz.func86, by kernel_rfl, by kernel_rfl⟩ sBatch_ok <|
  addS_ok ⟨_, Tryz.func144, by kernel_rfl, by kernel_rfl⟩ sMayEntry_ok <|
  addS_ok ⟨_, Tryz.func87, by kernel_rfl, by kernel_rfl⟩ sMayLog_ok <|
  addS_ok ⟨_, Tryz.func324, by kernel_rfl, by kernel_rfl⟩ sCmp_ok <|
  addS_ok ⟨_, Tryz.func167, by kernel_rfl, by kernel_rfl⟩ sPut_ok <|
  addS_ok ⟨_, Tryz.func197, by kernel_rfl, by kernel_rfl⟩ sHigh_ok <|
  addS_ok ⟨_, Tryz.func72, by kernel_rfl, by kernel_rfl⟩ sRep_ok noSum_ok
theorem calls_made {S : SumT} (hS : SumOk Tryz.prog S) (k : Nat) : CallOk Tryz.prog (callK kt S k) := callK_ok follows hgn kt_ok hS k
def okB (r : Rs) : Bool := Rs.rec false (fun v _ _ => V.rec (fun x => Sc.rec false (fun b => b) (fun _ _ => false) (fun _ _ => false) false (fun _ _ => false) false (fun _ _ _ _ _ => false) (fun _ _ _ _ _ => false) false false (fun _ => false) false (fun _ _ => false) false (fun _ _ _ _ => false) x) (fun _ => false) (fun _ => false) v) r
theorem okB_ok {r : Rs} (h : okB r = true) : ∃ H n, r = .ok (.c (.b true)) H n := by
  cases r with
  | no => cases h
  | ok v H n =>
    cases v with
    | c x =>
      cases x with
      | b b =>
        have h : b = true := h
        subst h
        exact ⟨H, n, rfl⟩
      | _ => cases h
    | _ => cases h
/-- 'x & m' is one of the numbers up to m -/
theorem bAnd_mask (m : Nat) (hm : m < 4611686018427387904) (x : Int) : ∃ j, j ≤ m ∧ bAnd .i64 x (.ofNat m) = some (.i .i64 (.ofNat j)) := by
  have key : ∀ x : Int, ∃ j, j ≤ m ∧ bitS .and .i64 x (.ofNat m) = some (.i .i64 (.ofNat j)) := fun x => by
    refine ⟨(BitVec.ofInt 64 x &&& BitVec.ofInt 64 (.ofNat m)).toNat, ?_, ?_⟩
    · rw [BitVec.toNat_and]
      refine Nat.le_trans Nat.and_le_right ?_
      rw [ofInt_nat, BitVec.toNat_ofNat]
      exact Nat.mod_le _ _
    · have hle : (BitVec.ofInt 64 x &&& BitVec.ofInt 64 (.ofNat m)).toNat ≤ m := by
        rw [BitVec.toNat_and]
        refine Nat.le_trans Nat.and_le_right ?_
        rw [ofInt_nat, BitVec.toNat_ofNat]
        exact Nat.mod_le _ _
      show some (Sc.i .i64 (IntKind.wrap .i64 (BitVec.ofInt 64 x &&& BitVec.ofInt 64 (.ofNat m)).toNat)) = _
      generalize (BitVec.ofInt 64 x &&& BitVec.ofInt 64 (.ofNat m)).toNat = q at hle ⊢
      have : IntKind.wrap .i64 (q : Int) = (q : Int) := by
        simp [IntKind.wrap, IntKind.bits, IntKind.signed]
        omega
      rw [this]
      rfl
  cases x with
  | negSucc x => exact key (.negSucc x)
  | ofNat x =>
    show ∃ j, j ≤ m ∧ cnd (and (Nat.blt x (limW .i64)) (Nat.blt m (limW .i64))) (some (Sc.i .i64 (.ofNat (Nat.land x m)))) (bitS .and .i64 (.ofNat x) (.ofNat m)) = _
    cases and (Nat.blt x (limW .i64)) (Nat.blt m (limW .i64)) with
    | true => exact ⟨Nat.land x m, Nat.and_le_right, rfl⟩
    | false => exact key (.ofNat x)
/-- a function that takes nothing and was run from nothing to the end: its summary -/
def sTrue (args : List V) (H : HT) (n : Nat) : Rs := match args with
  | [] => .ok (.c (.b true)) H n
  | _ => .no
theorem sTrue_ok {P : Program} {call : CallT} (hcall : CallOk P call) {fid n0 n1 : Nat} {H1 : HT} (h : call fid [] .z n0 = .ok (.c (.b true)) H1 n1) : SumOk1 P fid sTrue := by
  intro args H n v H' n' hr
  unfold sTrue at hr
  split at hr
  · cases hr
    refine ⟨Nat.le_refl _, fun G w cargs hR ha hf => ?_⟩
    have ha' : All2 (V.ok fun _ => none) [] cargs.toList := by
      revert ha
      cases cargs.toList with
      | nil => intro _; exact .nil
      | cons _ _ => intro q; cases q
    refine (drop_ok (n := n) hcall h hR ha').mono ?_
    rintro e w' ⟨cv, G', rfl, hs, hv⟩
    exact ⟨cv, G, rfl, hs, hv⟩
  · cases hr
/-- behind a run -/
def thenO (r : Ot) (f : T8 V → HT → Nat → Bool) : Bool := Ot.rec false (fun e t H n => Ex.rec (f t H n) (fun _ => false) false e) r
theorem thenO_ok {r : Ot} {f : T8 V → HT → Nat → Bool} (h : thenO r f = true) : ∃ t H n, r = .ok .nx t H n ∧ f t H n = true := by
  cases r with
  | no => cases h
  | ok e t H n =>
    cases e with
    | nx => exact ⟨t, H, n, rfl, h⟩
    | _ => cases h
end
end Ev
end Go.Proofs.YtcchekmejnhlmaaGreat
