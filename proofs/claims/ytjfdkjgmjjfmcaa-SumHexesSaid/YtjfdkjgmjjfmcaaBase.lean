/- Small facts on addresses, new blocks and returned values that all later walks use. (Reads and Blk are worked out after the kit's page of words for memory.) -/
import Derived.WalkKit
import Derived.WalkSpells
import Derived.WalkLawsBesides
import Derived.Below
import Derived.Laws.OwnMore
import Derived.Laws.Rows
import Derived.Deep.AppendLies
import Derived.Deep.Draws
import Derived.Lib.Hide
import Derived.Lib.Strings
import Derived.Laws.IdiomStrings
namespace Go.Proofs.Ytjfdkjgmjjfmcaa
open Go.RowKit

theorem ret_int {k : IntKind} {a b : Int} (h : a = b) : Ending.returned (.int k a) = .returned (.int k b) := by rw [h]
theorem ret_str {a b : ByteArray} (h : a = b) : Ending.returned (.string a) = .returned (.string b) := by rw [h]
theorem ret_bool {a b : Bool} (h : a = b) : Ending.returned (.bool a) = .returned (.bool b) := by rw [h]
theorem take_snoc (s : ByteArray) (k : Nat) (h : k < s.size) : s.data.toList.take (k + 1) = s.data.toList.take k ++ [s[k]] := by
  rw [List.take_succ_eq_append_getElem (by simpa using h)]; rfl
theorem block_of_add (a : Addr) (n : Nat) : (a.add n).block = a.block := by unfold Addr.add; split <;> rfl
theorem add_of_add (a : Addr) (i j : Nat) : (a.add i).add j = a.add (i + j) := by
  unfold Addr.add
  by_cases hi : i = 0 <;> by_cases hj : j = 0 <;> simp [hi, hj, Nat.add_assoc]
theorem add_mk (b o j : Nat) : (Addr.mk b o .none).add j = ⟨b, o + j, .none⟩ := by
  unfold Addr.add; by_cases h : j = 0 <;> simp [h]

/-- block g is just the cells cs of element type t, none frozen -/
def Blk (w : World) (g : Nat) (t : TypeId) (cs : Array Value) : Prop := w.heap[g]? = some (.cells cs t (0, 0))
section
variable {w w' : World} {g : Nat} {t : TypeId} {cs : Array Value}
theorem Blk.lt (h : Blk w g t cs) : g < w.heap.size := by
  rcases Nat.lt_or_ge g w.heap.size with hlt | hge
  · exact hlt
  · unfold Blk at h; rw [Array.getElem?_eq_none hge] at h; cases h
theorem Blk.cell (h : Blk w g t cs) (i : Nat) : w.cell? ⟨g, i, .none⟩ = cs[i]? := cell_of_row w g i cs t (0, 0) h
theorem Blk.frozen (h : Blk w g t cs) (i : Nat) : w.frozen? ⟨g, i, .none⟩ = false := by
  unfold Blk at h
  simp [World.frozen?, h]
theorem Blk.new (w : World) (t : TypeId) (cs : Array Value) : Blk (w.alloc (.cells cs t)) w.heap.size t cs := heap_alloc_new w _
theorem Blk.drew (h : Blk w g t cs) : Blk w.drew g t cs := h
theorem Blk.drewN (h : Blk w g t cs) (n : Nat) : Blk (w.drewN n) g t cs := h
theorem Blk.alloc (h : Blk w g t cs) (o : Obj) : Blk (w.alloc o) g t cs := (Below.heap_alloc w o g h.lt).trans h
theorem Blk.set_ (h : Blk w g t cs) (i : Nat) (u : Value) : Blk (w.setCell ⟨g, i, .none⟩ u) g t (cs.setIfInBounds i u) := by
  unfold Blk at h ⊢
  simp [World.setCell, Array.getElem?_modify, h]
theorem Blk.far (h : Blk w g t cs) {p : Addr} (hp : g ≠ p.block) (u : Value) : Blk (w.setCell p u) g t cs := (Below.heap_setCell w p u g hp).trans h
theorem Blk.below {B : Nat} (h : Blk w g t cs) (hb : Below B w w') (hg : g < B) : Blk w' g t cs := (hb.block g hg).trans h
theorem Blk.grown {row : Option Nat} (h : Blk w g t cs) (hb : w.grownBy w' row) (hg : some g ≠ row) : Blk w' g t cs := (hb.block g h.lt hg).trans h
theorem Blk.ne_ {g' : Nat} {t' : TypeId} {cs' : Array Value} (h : Blk w g t cs) (h' : Blk w g' t' cs') (hne : t ≠ t') : g ≠ g' := by
  rintro rfl
  unfold Blk at h h'
  rw [h] at h'
  injection h' with h'
  injection h' with _ ht
  exact hne ht
theorem own_blk_ne {base : Nat} {e : TypeId} {size n : Nat} {v : Value} {xs : List Value} (h : w.ownsRow base e size v n xs) (hg : Blk w g t cs) (hne : e ≠ t) : v.ownBlock ≠ some g := by
  rcases h.2 with ⟨rfl, _⟩ | ⟨g', cap, cur, rfl, _, hh, _⟩
  · simp [Value.ownBlock]
  · intro he
    have : g' = g := by simpa [Value.ownBlock] using he
    subst this
    exact Blk.ne_ (t := e) hh hg hne rfl
end
theorem cell_new (w : World) (cs : Array Value) (t : TypeId) (j : Nat) : (w.alloc (.cells cs t)).cell? ⟨w.heap.size, j, .none⟩ = cs[j]? := (Blk.new w t cs).cell j

/-- a slice value that holds the cells xs and lies below block B; nil let in -/
def Reads (w : World) (B size : Nat) (A : Option Addr) (n : Nat) (xs : List Value) : Prop :=
  xs.length = n * size ∧ (0 < n → ∃ ad, A = some ad ∧ ad.block < B ∧ ∀ j u, xs[j]? = some u → w.cell? (ad.add j) = some u)
section
variable {w w' : World} {B B' size n : Nat} {A : Option Addr} {xs : List Value}
theorem Reads.none_ : Reads w B size A 0 [] := ⟨by simp, fun h => absurd h (by omega)⟩
theorem Reads.at_ {k : Nat} (h : Reads w B 1 A n xs) (hk : k < n) : ∃ ad u, A = some ad ∧ ad.block < B ∧ xs[k]? = some u ∧ w.cell? (ad.add k) = some u := by
  obtain ⟨ad, e, hb, hc⟩ := h.2 (by omega)
  have hl : k < xs.length := by have := h.1; omega
  exact ⟨ad, xs[k], e, hb, List.getElem?_eq_getElem hl, hc k _ (List.getElem?_eq_getElem hl)⟩
theorem Reads.keep (h : Reads w B size A n xs) (hk : ∀ p : Addr, p.block < B → w'.cell? p = w.cell? p) : Reads w' B size A n xs :=
  ⟨h.1, fun hn => by
    obtain ⟨ad, e, hb, hc⟩ := h.2 hn
    exact ⟨ad, e, hb, fun j u hu => (hk _ (by rw [block_of_add]; exact hb)).trans (hc j u hu)⟩⟩
theorem Reads.more (h : Reads w B size A n xs) (hB : B ≤ B') : Reads w B' size A n xs :=
  ⟨h.1, fun hn => by
    obtain ⟨ad, e, hb, hc⟩ := h.2 hn
    exact ⟨ad, e, by omega, hc⟩⟩
theorem Reads.below (h : Reads w B size A n xs) (hb : Below B w w') : Reads w' B size A n xs := h.keep fun _ hp => hb.cell hp
theorem Reads.drew (h : Reads w B size A n xs) : Reads w.drew B size A n xs := h
theorem Reads.drewN (h : Reads w B size A n xs) (k : Nat) : Reads (w.drewN k) B size A n xs := h
theorem Reads.alloc (h : Reads w B size A n xs) (hB : B ≤ w.heap.size) (o : Obj) : Reads (w.alloc o) B size A n xs := h.keep fun p hp => World.cell?_alloc_lt w o p (by omega)
theorem Reads.setCell (h : Reads w B size A n xs) {p : Addr} (hB : B ≤ p.block) (u : Value) : Reads (w.setCell p u) B size A n xs :=
  h.keep fun q hq => World.cell?_setCell_other w p q u (fun e => by subst e; omega)
theorem Reads.grown (h : Reads w B size A n xs) {row : Option Nat} (hg : w.grownBy w' row) (hB : B ≤ w.heap.size) (hr : ∀ g, row = some g → B ≤ g) : Reads w' B size A n xs :=
  h.keep fun p hp => World.cell?_of_block (hg.block p.block (by omega) (fun e => by have := hr _ e.symm; omega))
theorem Reads.of_own {base : Nat} {e : TypeId} {c : Nat} (h : w.ownsRow base e size (.slice A n c) n xs) : Reads w w.heap.size size A n xs := by
  refine ⟨h.1, fun hn => ?_⟩
  obtain ⟨g, cap, hv, _, hlt⟩ := h.form hn
  have hA : A = some ⟨g, 0, .none⟩ := by injection hv
  subst hA
  exact ⟨_, rfl, hlt, h.cells (g := g) rfl⟩
end

/-! []byte(s), one byte of it turned, and back -/
def bytesObj (E : TypeId) (s : ByteArray) (cap : Nat) : Obj := .cells (bytesRow s cap) E ((bytesRow s cap).size, (bytesRow s cap).size + 1)
theorem to_bytes {P : Program} (src dst e : TypeId) (hs : P.underlying src = some .string) (hd : P.underlying dst = some (.slice e)) (he : P.underlying e = some (.int .u8)) (s : ByteArray) (w : World) :
    (convert src dst (.string s)).run P w = .ok (.slice (some ⟨w.heap.size, 0, .none⟩) s.size (grownCap w s.size 0 e)) (w.drew.alloc (bytesObj e s (grownCap w s.size 0 e))) :=
  run_bytes_of_string w src dst e s hs hd he
theorem bytes_cell (w : World) (e : TypeId) (s : ByteArray) (cap k : Nat) (h : k < s.size) : (w.alloc (bytesObj e s cap)).cell? ⟨w.heap.size, k, .none⟩ = some (.int .u8 (s[k].toNat : Int)) := by
  unfold bytesObj; rw [World.cell?_alloc_mark, bytesRow_at s cap k h]; rfl
theorem bytes_frozen (w : World) (e : TypeId) (s : ByteArray) (cap k : Nat) (h : k < s.size) : (w.alloc (bytesObj e s cap)).frozen? ⟨w.heap.size, k, .none⟩ = false := by
  unfold bytesObj; rw [World.frozen?_alloc_mark]
  have : k < (bytesRow s cap).size := by unfold bytesRow; rw [Array.size_append, Array.size_map]; exact Nat.lt_of_lt_of_le h (Nat.le_add_right _ _)
  simp; omega
def turned (s : ByteArray) (k : Nat) (b : UInt8) : ByteArray := ⟨(s.data.toList.set k b).toArray⟩
theorem turned_size (s : ByteArray) (k : Nat) (b : UInt8) : (turned s k b).size = s.size := by
  show (s.data.toList.set k b).toArray.size = s.data.size
  simp
theorem turned_list (s : ByteArray) (k : Nat) (b : UInt8) (h : k < s.size) : (turned s k b).data.toList = s.data.toList.take k ++ b :: s.data.toList.drop (k + 1) := by
  show s.data.toList.set k b = _
  rw [List.set_eq_take_append_cons_drop, if_pos (by simpa using h)]
theorem split_list (s : ByteArray) (k : Nat) (h : k < s.size) : s.data.toList = s.data.toList.take k ++ s[k] :: s.data.toList.drop (k + 1) := by
  have h' : k < s.data.toList.length := by simpa using h
  have e : s[k] = s.data.toList[k] := by simp; rfl
  rw [e, ← List.drop_eq_getElem_cons h', List.take_append_drop]
theorem from_turned {P : Program} (src dst e : TypeId) (hs : P.underlying src = some (.slice e)) (he : P.underlying e = some (.int .u8)) (hd : P.underlying dst = some .string) (s : ByteArray) (k : Nat) (b : UInt8) (hk : k < s.size) (cap c : Nat) (w : World) :
    (convert src dst (.slice (some ⟨w.heap.size, 0, .none⟩) s.size cap)).run P ((w.alloc (bytesObj e s c)).setCell ⟨w.heap.size, k, .none⟩ (.int .u8 (b.toNat : Int))) = .ok (.string (turned s k b)) ((w.alloc (bytesObj e s c)).setCell ⟨w.heap.size, k, .none⟩ (.int .u8 (b.toNat : Int))) := by
  have h := run_convert_bytes_back (P := P) ((w.alloc (bytesObj e s c)).setCell ⟨w.heap.size, k, .none⟩ (.int .u8 (b.toNat : Int))) src dst e ⟨w.heap.size, 0, .none⟩ cap (s.data.toList.set k b) hs he hd (fun j hj => by
    have hj' : j < s.size := by simpa using hj
    rw [add_mk, Nat.zero_add]
    by_cases e : j = k
    · subst e
      rw [List.getElem_set_self]
      exact World.cell?_setCell_same _ _ _ (bytes_cell w _ s c j hj')
    · rw [World.cell?_setCell_other _ _ _ _ (fun h => e (by injection h with _ h2 _; exact h2.symm)), bytes_cell w _ s c j hj', List.getElem_set_ne (fun h => e h.symm)]
      congr 2)
  have hl : (s.data.toList.set k b).length = s.size := by simp
  rw [hl] at h
  exact h
theorem from_turned_drew {P : Program} (src dst e : TypeId) (hs : P.underlying src = some (.slice e)) (he : P.underlying e = some (.int .u8)) (hd : P.underlying dst = some .string) (s : ByteArray) (k : Nat) (b : UInt8) (hk : k < s.size) (cap c : Nat) (w : World) :
    (convert src dst (.slice (some ⟨w.heap.size, 0, .none⟩) s.size cap)).run P ((w.alloc (bytesObj e s c)).setCell ⟨w.heap.size, k, .none⟩ (.int .u8 (b.toNat : Int))).drew = .ok (.string (turned s k b)) ((w.alloc (bytesObj e s c)).setCell ⟨w.heap.size, k, .none⟩ (.int .u8 (b.toNat : Int))).drew :=
  from_turned src dst e hs he hd s k b hk cap c w.drew

/-- int(uint(x) % uint(n)) -/
theorem pick_of (x : Int) (n : Nat) (h : 0 < n) (hn : n ≤ 9223372036854775807) : ∃ k : Nat, k < n ∧ wrap64 ((IntKind.u64.wrap x).tmod (n : Int)) = (k : Int) := by
  have h0 : 0 ≤ IntKind.u64.wrap x := by rw [IntKind.wrap_u64]; omega
  rw [Int.tmod_eq_emod_of_nonneg h0]
  have h1 : 0 ≤ IntKind.u64.wrap x % (n : Int) := Int.emod_nonneg _ (by omega)
  have h2 : IntKind.u64.wrap x % (n : Int) < n := Int.emod_lt_of_pos _ (by omega)
  refine ⟨(IntKind.u64.wrap x % (n : Int)).toNat, by omega, ?_⟩
  rw [IntWalk.wrap64_in _ ⟨by omega, by omega⟩]
  omega
/-- b ^ byte(1 + int(uint(x) % 255)): another byte than b -/
theorem turn_of (x : Int) (b : UInt8) : ∃ d : UInt8, d ≠ b ∧ bits .xor .u8 (b.toNat : Int) (wrap64 (1 + wrap64 ((IntKind.u64.wrap x).tmod 255)) % 256) = (d.toNat : Int) := by
  obtain ⟨m, hm, hk⟩ := pick_of x 255 (by omega) (by omega)
  rw [show ((255 : Nat) : Int) = 255 from rfl] at hk
  have hb := b.toNat_lt
  rw [hk, IntWalk.wrap64_in _ ⟨by omega, by omega⟩, show (1 + (m : Int)) % 256 = ((1 + m : Nat) : Int) from by omega, u8_xor_nat _ _ (by omega) (by omega)]
  refine ⟨b ^^^ UInt8.ofNat (1 + m), fun e => ?_, ?_⟩
  · have : b ^^^ (b ^^^ UInt8.ofNat (1 + m)) = b ^^^ b := by rw [e]
    rw [← UInt8.xor_assoc, UInt8.xor_self, UInt8.zero_xor] at this
    have := congrArg UInt8.toNat this
    rw [UInt8.toNat_ofNat'] at this
    simp at this
    omega
  · rw [UInt8.toNat_xor, UInt8.toNat_ofNat']
    congr 2
    omega
theorem empty_of {s : ByteArray} (h : s.size = 0) : s = ⟨#[]⟩ := by
  apply ByteArray.ext; exact Array.eq_empty_of_size_eq_zero h
theorem nonempty_of {s : ByteArray} (h : ¬ s.size = 0) : s.toList.isEmpty = false := by
  rw [Lib.toList_data]
  cases hl : s.data.toList with
  | nil => exact absurd (by show s.data.size = 0; rw [← Array.length_toList, hl]; rfl) h
  | cons => rfl
end Go.Proofs.Ytjfdkjgmjjfmcaa
