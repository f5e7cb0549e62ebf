/- Joined texts: Base, Frame, WirePlain, WireMore, PtPlain. -/
import Derived.WalkKit
import Derived.WalkSpells
import Derived.WalkLawsBesides
import Derived.Below
import Derived.Laws.OwnMore
import Derived.Laws.Rows
import Derived.Deep.AppendLies
import Derived.Deep.Draws
import Derived.Lib.Hide
import Derived.Lib.Strings
import Derived.Laws.IdiomStrings
import Derived.Maps.AppendAt
import Derived.OwnWalk
import Derived.Deep.QuietTactic
import Derived.Laws.MakeOwn
import Derived.Laws.Entries
import Derived.Laws.BitsAllLaws
import Derived.Laws.BitsLemmas
import Derived.BigQuiet
import Derived.IntWalk
/- Small facts on addresses, new blocks and returned values that all later walks use. (Reads and Blk are worked out after the kit's page of words for memory.) -/
namespace Go.Proofs.YtmnigoibbcigdaaGreat
open Go.RowKit
set_option linter.unusedVariables false

theorem ret_int {k : IntKind} {a b : Int} (h : a = b) : Ending.returned (.int k a) = .returned (.int k b) := by rw [h]
theorem ret_str {a b : ByteArray} (h : a = b) : Ending.returned (.string a) = .returned (.string b) := by rw [h]
theorem ret_bool {a b : Bool} (h : a = b) : Ending.returned (.bool a) = .returned (.bool b) := by rw [h]
theorem take_snoc (s : ByteArray) (k : Nat) (h : k < s.size) : s.data.toList.take (k + 1) = s.data.toList.take k ++ [s[k]] := by
  rw [List.take_succ_eq_append_getElem (by simpa using h)]; rfl
theorem add_mk (b o j : Nat) : (Addr.mk b o .none).add j = ⟨b, o + j, .none⟩ := by
  unfold Addr.add; by_cases h : j = 0 <;> simp [h]

/-- block g is just the cells cs of element type t, none frozen -/
def Blk (w : World) (g : Nat) (t : TypeId) (cs : Array Value) : Prop := w.heap[g]? = some (.cells cs t (0, 0))
section
variable {w w' : World} {g : Nat} {t : TypeId} {cs : Array Value}
theorem Blk.lt (h : Blk w g t cs) : g < w.heap.size := by
  rcases Nat.lt_or_ge g w.heap.size with hlt | hge
  · exact hlt
  · unfold Blk at h; rw [Array.getElem?_eq_none hge] at h; cases h
theorem Blk.cell (h : Blk w g t cs) (i : Nat) : w.cell? ⟨g, i, .none⟩ = cs[i]? := cell_of_row w g i cs t (0, 0) h
theorem Blk.frozen (h : Blk w g t cs) (i : Nat) : w.frozen? ⟨g, i, .none⟩ = false := by
  unfold Blk at h
  simp [World.frozen?, h]
theorem Blk.new (w : World) (t : TypeId) (cs : Array Value) : Blk (w.alloc (.cells cs t)) w.heap.size t cs := heap_alloc_new w _
theorem Blk.drew (h : Blk w g t cs) : Blk w.drew g t cs := h
theorem Blk.drewN (h : Blk w g t cs) (n : Nat) : Blk (w.drewN n) g t cs := h
theorem Blk.alloc (h : Blk w g t cs) (o : Obj) : Blk (w.alloc o) g t cs := (Below.heap_alloc w o g h.lt).trans h
theorem Blk.set_ (h : Blk w g t cs) (i : Nat) (u : Value) : Blk (w.setCell ⟨g, i, .none⟩ u) g t (cs.setIfInBounds i u) := by
  unfold Blk at h ⊢
  simp [World.setCell, Array.getElem?_modify, h]
theorem Blk.far (h : Blk w g t cs) {p : Addr} (hp : g ≠ p.block) (u : Value) : Blk (w.setCell p u) g t cs := (Below.heap_setCell w p u g hp).trans h
theorem Blk.below {B : Nat} (h : Blk w g t cs) (hb : Below B w w') (hg : g < B) : Blk w' g t cs := (hb.block g hg).trans h
theorem Blk.grown {row : Option Nat} (h : Blk w g t cs) (hb : w.grownBy w' row) (hg : some g ≠ row) : Blk w' g t cs := (hb.block g h.lt hg).trans h
theorem Blk.ne_ {g' : Nat} {t' : TypeId} {cs' : Array Value} (h : Blk w g t cs) (h' : Blk w g' t' cs') (hne : t ≠ t') : g ≠ g' := by
  rintro rfl
  unfold Blk at h h'
  rw [h] at h'
  injection h' with h'
  injection h' with _ ht
  exact hne ht
theorem own_blk_ne {base : Nat} {e : TypeId} {size n : Nat} {v : Value} {xs : List Value} (h : w.ownsRow base e size v n xs) (hg : Blk w g t cs) (hne : e ≠ t) : v.ownBlock ≠ some g := by
  rcases h.2 with ⟨rfl, _⟩ | ⟨g', cap, cur, rfl, _, hh, _⟩
  · simp [Value.ownBlock]
  · intro he
    have : g' = g := by simpa [Value.ownBlock] using he
    subst this
    exact Blk.ne_ (t := e) hh hg hne rfl
end
theorem cell_new (w : World) (cs : Array Value) (t : TypeId) (j : Nat) : (w.alloc (.cells cs t)).cell? ⟨w.heap.size, j, .none⟩ = cs[j]? := (Blk.new w t cs).cell j

/-- a slice value that holds the cells xs and lies below block B; nil let in -/
def Reads (w : World) (B size : Nat) (A : Option Addr) (n : Nat) (xs : List Value) : Prop :=
  xs.length = n * size ∧ (0 < n → ∃ b off, A = some ⟨b, off, .none⟩ ∧ b < B ∧ ∀ j u, xs[j]? = some u → w.cell? ⟨b, off + j, .none⟩ = some u)
section
variable {w w' : World} {B B' size n : Nat} {A : Option Addr} {xs : List Value}
theorem Reads.none_ : Reads w B size A 0 [] := ⟨by simp, fun h => absurd h (by omega)⟩
theorem Reads.keep (h : Reads w B size A n xs) (hk : ∀ p : Addr, p.block < B → w'.cell? p = w.cell? p) : Reads w' B size A n xs :=
  ⟨h.1, fun hn => by
    obtain ⟨b, off, e, hb, hc⟩ := h.2 hn
    exact ⟨b, off, e, hb, fun j u hu => (hk _ hb).trans (hc j u hu)⟩⟩
theorem Reads.more (h : Reads w B size A n xs) (hB : B ≤ B') : Reads w B' size A n xs :=
  ⟨h.1, fun hn => by
    obtain ⟨b, off, e, hb, hc⟩ := h.2 hn
    exact ⟨b, off, e, by omega, hc⟩⟩
theorem Reads.below (h : Reads w B size A n xs) (hb : Below B w w') : Reads w' B size A n xs := h.keep fun _ hp => hb.cell hp
theorem Reads.drewN (h : Reads w B size A n xs) (k : Nat) : Reads (w.drewN k) B size A n xs := h
theorem Reads.alloc (h : Reads w B size A n xs) (hB : B ≤ w.heap.size) (o : Obj) : Reads (w.alloc o) B size A n xs := h.keep fun p hp => World.cell?_alloc_lt w o p (by omega)
theorem Reads.of_own {base : Nat} {e : TypeId} {c : Nat} (h : w.ownsRow base e size (.slice A n c) n xs) : Reads w w.heap.size size A n xs := by
  refine ⟨h.1, fun hn => ?_⟩
  obtain ⟨g, cap, hv, _, hlt⟩ := h.form hn
  have hA : A = some ⟨g, 0, .none⟩ := by injection hv
  subst hA
  exact ⟨_, _, rfl, hlt, fun j u hu => by have := h.cells (g := g) rfl j u hu; rwa [add_mk] at this⟩
end
theorem own_drewN {w : World} {base : Nat} {e : TypeId} {size n : Nat} {v : Value} {xs : List Value} (h : w.ownsRow base e size v n xs) (k : Nat) : (w.drewN k).ownsRow base e size v n xs := h
theorem below_drewN {B : Nat} {a w : World} (h : Below B a w) (n : Nat) : Below B a (w.drewN n) := ⟨h.os, h.tape, h.output, h.size, h.block⟩
/-- what a slice of the call's own is: a slice value, and it reads as its row -/
theorem own_slice {w : World} {base : Nat} {e : TypeId} {size n : Nat} {v : Value} {xs : List Value} (h : w.ownsRow base e size v n xs) :
    ∃ A c, v = .slice A n c ∧ n ≤ c ∧ Reads w w.heap.size size A n xs := by
  rcases h.2 with ⟨rfl, rfl⟩ | ⟨g, cap, cur, rfl, hg, hh, hnc, hcm, hcs, hx⟩
  · exact ⟨_, _, rfl, Nat.le_refl _, Reads.of_own h⟩
  · exact ⟨_, _, rfl, hnc, Reads.of_own h⟩
theorem own_cap {w : World} {base : Nat} {e : TypeId} {size n cap : Nat} {ad : Addr} {xs : List Value} (h : w.ownsRow base e size (.slice (some ad) n cap) n xs) : n ≤ cap ∧ cap ≤ maxLen := by
  rcases h.2 with ⟨h, _⟩ | ⟨g', cap', cur, h, _, _, h1, h2, _⟩
  · cases h
  · injection h with _ _ h; subst h; exact ⟨h1, h2⟩
theorem own_nil (w : World) (base : Nat) (e : TypeId) (size : Nat) : w.ownsRow base e size (.slice .none 0 0) 0 [] := ⟨by simp, .inl ⟨rfl, rfl⟩⟩

section
variable {P : Program}
/-- 'out = append(out, x)', out nil or the call's own -/
theorem wpList_push (w : World) {ops : Array Oper} {rest : List Oper} {o : Oper} {a : Act} {Q : Exit → Act → World → Prop} (hgd : o.guard = .none) (s x : Operand) (t : TypeId)
    (ho : o.op = .call { callee := .builtin .append, args := #[s, x], argTypes := #[t, t] })
    (base : Nat) (e : TypeId) (i : TypeInfo) (z : Value) (size bytes : Nat) (ht : P.underlying t = some (.slice e)) (hi : P.info? e = some i) (hz : i.zero = some z)
    (hsize : i.size = size) (hby : i.bytes = bytes) (hzs : z.cells.size = size) (hsz : 0 < size)
    (v : Value) (n : Nat) (xs : List Value) (hs : a.eval s = v) (hown : w.ownsRow base e size v n xs)
    (news : List Value) (hx : a.eval x = .slice (some ⟨w.heap.size, 0, .none⟩) 1 1) (hl : news.length = size) (h1 : ∀ u ∈ news, u.oneCell' = true)
    (hmax : n + 1 ≤ maxLen) (hbytes : (n + 1) * bytes ≤ 140737488355328) (w0 : World) (hb : Below base w0 w) (hbase : base ≤ w.heap.size)
    (h : ∀ v' w', w'.ownsRow base e size v' (n + 1) (xs ++ news) → Below base w0 w' → wpList P ops Q rest (a.put o.dst v') w') :
    wpList P ops Q (o :: rest) a (w.alloc (.cells news.toArray e)) :=
  wpList_append_own _ hgd s x t ho base e i z size bytes ht hi hz hsize hby hzs hsz v n xs hs (hown.alloc _) ⟨w.heap.size, 0, .none⟩ 1 1 news hx (by rw [hl, Nat.one_mul])
    (fun j u hu => by rw [add_mk, Nat.zero_add, cell_new]; simpa using hu) h1 hmax hbytes (by simp; omega)
    (fun v' w' h2 h3 _ => h v' w' h2 ((hb.alloc hbase _).grown h3 (by simp; omega) (fun g hg => (hown.lt g hg).1)))
/-- 'out = append(out, x, y, ..)', out nil or the call's own -/
theorem wpList_pushes (w : World) {ops : Array Oper} {rest : List Oper} {o : Oper} {a : Act} {Q : Exit → Act → World → Prop} (hgd : o.guard = .none) (s x : Operand) (t : TypeId)
    (ho : o.op = .call { callee := .builtin .append, args := #[s, x], argTypes := #[t, t] })
    (base : Nat) (e : TypeId) (i : TypeInfo) (z : Value) (size bytes : Nat) (ht : P.underlying t = some (.slice e)) (hi : P.info? e = some i) (hz : i.zero = some z)
    (hsize : i.size = size) (hby : i.bytes = bytes) (hzs : z.cells.size = size) (hsz : 0 < size)
    (v : Value) (n : Nat) (xs : List Value) (hs : a.eval s = v) (hown : w.ownsRow base e size v n xs)
    (m : Nat) (news : List Value) (hx : a.eval x = .slice (some ⟨w.heap.size, 0, .none⟩) m m) (hl : news.length = m * size) (h1 : ∀ u ∈ news, u.oneCell' = true)
    (hmax : n + m ≤ maxLen) (hbytes : (n + m) * bytes ≤ 140737488355328) (w0 : World) (hb : Below base w0 w) (hbase : base ≤ w.heap.size)
    (h : ∀ v' w', w'.ownsRow base e size v' (n + m) (xs ++ news) → Below base w0 w' → wpList P ops Q rest (a.put o.dst v') w') :
    wpList P ops Q (o :: rest) a (w.alloc (.cells news.toArray e)) :=
  wpList_append_own _ hgd s x t ho base e i z size bytes ht hi hz hsize hby hzs hsz v n xs hs (hown.alloc _) ⟨w.heap.size, 0, .none⟩ m m news hx hl
    (fun j u hu => by rw [add_mk, Nat.zero_add, cell_new]; simpa using hu) h1 hmax hbytes (by simp; omega)
    (fun v' w' h2 h3 _ => h v' w' h2 ((hb.alloc hbase _).grown h3 (by simp; omega) (fun g hg => (hown.lt g hg).1)))
end

section
variable {P : Program} (w : World)
theorem run_append_of_nil (base : Nat) (t ty e : TypeId) (i : TypeInfo) (size : Nat) (ht : P.underlying t = some (.slice e)) (hi : P.info? e = some i)
    (v : Value) (n : Nat) (xs : List Value) (hown : w.ownsRow base e size v n xs) (c : Nat) : (Builtin.append_ #[t, t] ty #[v, .slice .none 0 c]).run P w = .ok v w := by
  rcases hown.2 with ⟨rfl, rfl⟩ | ⟨g, cap, cur, rfl, _, _, hnc, _⟩
  · simp [Builtin.append_, run_underlying ht, sizeOf, typeInfo, hi, Builtin.lenOf, Builtin.firstCells]
  · simp [Builtin.append_, run_underlying ht, sizeOf, typeInfo, hi, Builtin.lenOf, Builtin.firstCells, hnc, storeCells]
theorem run_append_all (base : Nat) (t ty e : TypeId) (i : TypeInfo) (z : Value) (size bytes : Nat) (ht : P.underlying t = some (.slice e)) (hi : P.info? e = some i) (hz : i.zero = some z)
    (hsize : i.size = size) (hby : i.bytes = bytes) (hzs : z.cells.size = size) (hsz : 0 < size)
    (v : Value) (n : Nat) (xs : List Value) (hown : w.ownsRow base e size v n xs)
    (B : Nat) (A : Option Addr) (m c : Nat) (news : List Value) (hr : Reads w B size A m news) (h1 : ∀ u ∈ news, u.oneCell' = true)
    (h63 : n + m ≤ maxLen) (hbytes : (n + m) * bytes ≤ 140737488355328) (hbase : base ≤ w.heap.size) :
    ∃ v' w', (Builtin.append_ #[t, t] ty #[v, .slice A m c]).run P w = .ok v' w' ∧ w'.ownsRow base e size v' (n + m) (xs ++ news) ∧ w.grownBy w' v.ownBlock ∧
      (v'.ownBlock = v.ownBlock ∨ v'.ownBlock = some w.heap.size) := by
  rcases A with _ | ad
  · have hm : m = 0 := by
      rcases Nat.eq_zero_or_pos m with h0 | h0
      · exact h0
      · obtain ⟨b, off, h, _⟩ := hr.2 h0
        cases h
    subst hm
    have hn : news = [] := List.eq_nil_of_length_eq_zero (by simpa using hr.1)
    subst hn
    exact ⟨v, w, run_append_of_nil w base t ty e i size ht hi v n xs hown c, by simpa using hown, World.grownBy.refl w _, .inl rfl⟩
  · have hcells : ∀ j u, news[j]? = some u → w.cell? (ad.add j) = some u := by
      intro j u hu
      rcases Nat.eq_zero_or_pos m with h0 | h0
      · subst h0
        have hn : news = [] := List.eq_nil_of_length_eq_zero (by simpa using hr.1)
        subst hn
        simp at hu
      · obtain ⟨b, off, h, _, hc⟩ := hr.2 h0
        injection h with h
        subst h
        rw [add_mk]
        exact hc j u hu
    obtain ⟨v', w', hrun, h2, h3, _, h5⟩ := run_append_own_at (P := P) w base t ty e i z size bytes ht hi hz hsize hby hzs hsz v n xs hown ad m c news hr.1 hcells h1 h63 hbytes hbase
    exact ⟨v', w', hrun, h2, h3, h5⟩
theorem wp_append_all {o : Oper} {a : Act} {K : Act → World → Prop} {Q : Exit → Act → World → Prop} (s x : Operand) (t : TypeId)
    (ho : o.op = .call { callee := .builtin .append, args := #[s, x], argTypes := #[t, t] })
    (base : Nat) (e : TypeId) (i : TypeInfo) (z : Value) (size bytes : Nat) (ht : P.underlying t = some (.slice e)) (hi : P.info? e = some i) (hz : i.zero = some z)
    (hsize : i.size = size) (hby : i.bytes = bytes) (hzs : z.cells.size = size) (hsz : 0 < size)
    (v : Value) (n : Nat) (xs : List Value) (hs : a.eval s = v) (hown : w.ownsRow base e size v n xs)
    (B : Nat) (A : Option Addr) (m c : Nat) (news : List Value) (hx : a.eval x = .slice A m c) (hr : Reads w B size A m news) (h1 : ∀ u ∈ news, u.oneCell' = true)
    (h63 : n + m ≤ maxLen) (hbytes : (n + m) * bytes ≤ 140737488355328) (hbase : base ≤ w.heap.size)
    (h : ∀ v' w', w'.ownsRow base e size v' (n + m) (xs ++ news) → w.grownBy w' v.ownBlock → (v'.ownBlock = v.ownBlock ∨ v'.ownBlock = some w.heap.size) → K (a.put o.dst v') w') : o.wp P a w K Q := by
  obtain ⟨v', w', hrun, h2, h3, h4⟩ := run_append_all (P := P) w base t o.type e i z size bytes ht hi hz hsize hby hzs hsz v n xs hown B A m c news hr h1 h63 hbytes hbase
  unfold Oper.wp execOp
  simp only [ho, resolve, invoke, builtin, Sem.run_bind, Sem.run_pure, Result.andThen_ok, List.map_toArray, List.map_cons, List.map_nil, hs, hx, hrun]
  exact h v' w' h2 h3 h4
/-- 'out = append(out, xs...)', out nil or the call's own, xs nil or not -/
theorem wpList_append_all {ops : Array Oper} {rest : List Oper} {o : Oper} {a : Act} {Q : Exit → Act → World → Prop} (hgd : o.guard = .none) (s x : Operand) (t : TypeId)
    (ho : o.op = .call { callee := .builtin .append, args := #[s, x], argTypes := #[t, t] })
    (base : Nat) (e : TypeId) (i : TypeInfo) (z : Value) (size bytes : Nat) (ht : P.underlying t = some (.slice e)) (hi : P.info? e = some i) (hz : i.zero = some z)
    (hsize : i.size = size) (hby : i.bytes = bytes) (hzs : z.cells.size = size) (hsz : 0 < size)
    (v : Value) (n : Nat) (xs : List Value) (hs : a.eval s = v) (hown : w.ownsRow base e size v n xs)
    (B : Nat) (A : Option Addr) (m c : Nat) (news : List Value) (hx : a.eval x = .slice A m c) (hr : Reads w B size A m news) (h1 : ∀ u ∈ news, u.oneCell' = true)
    (h63 : n + m ≤ maxLen) (hbytes : (n + m) * bytes ≤ 140737488355328) (w0 : World) (hb : Below base w0 w) (hbase : base ≤ w.heap.size)
    (h : ∀ v' w', w'.ownsRow base e size v' (n + m) (xs ++ news) → Below base w0 w' → (v'.ownBlock = v.ownBlock ∨ v'.ownBlock = some w.heap.size) → wpList P ops Q rest (a.put o.dst v') w') : wpList P ops Q (o :: rest) a w :=
  wpList_plain hgd fun _ hK => wp_append_all w s x t ho base e i z size bytes ht hi hz hsize hby hzs hsz v n xs hs hown B A m c news hx hr h1 h63 hbytes hbase fun v' w' h2 h3 h4 => hK _ _ (h v' w' h2 (hb.grown h3 hbase (fun g hg => (hown.lt g hg).1)) h4)
end
/-- 'out = append(out, x)', beside other rows of the call's own -/
theorem wpList_push_beside {P : Program} (w : World) {ops : Array Oper} {rest : List Oper} {o : Oper} {a : Act} {Q : Exit → Act → World → Prop} (hgd : o.guard = .none) (s x : Operand) (t : TypeId)
    (ho : o.op = .call { callee := .builtin .append, args := #[s, x], argTypes := #[t, t] })
    (base : Nat) (e : TypeId) (i : TypeInfo) (z : Value) (size bytes : Nat) (ht : P.underlying t = some (.slice e)) (hi : P.info? e = some i) (hz : i.zero = some z)
    (hsize : i.size = size) (hby : i.bytes = bytes) (hzs : z.cells.size = size) (hsz : 0 < size)
    (v : Value) (n : Nat) (xs : List Value) (hs : a.eval s = v) (hown : w.ownsRow base e size v n xs)
    (news : List Value) (hx : a.eval x = .slice (some ⟨w.heap.size, 0, .none⟩) 1 1) (hl : news.length = size) (h1 : ∀ u ∈ news, u.oneCell' = true)
    (hmax : n + 1 ≤ maxLen) (hbytes : (n + 1) * bytes ≤ 140737488355328) (w0 : World) (hb : Below base w0 w) (hbase : base ≤ w.heap.size)
    (h : ∀ v' w', w'.ownsRow base e size v' (n + 1) (xs ++ news) → Below base w0 w' → (w.alloc (.cells news.toArray e)).grownBy w' v.ownBlock → wpList P ops Q rest (a.put o.dst v') w') :
    wpList P ops Q (o :: rest) a (w.alloc (.cells news.toArray e)) :=
  wpList_append_own _ hgd s x t ho base e i z size bytes ht hi hz hsize hby hzs hsz v n xs hs (hown.alloc _) ⟨w.heap.size, 0, .none⟩ 1 1 news hx (by rw [hl, Nat.one_mul])
    (fun j u hu => by rw [add_mk, Nat.zero_add, cell_new]; simpa using hu) h1 hmax hbytes (by simp; omega)
    (fun v' w' h2 h3 _ => h v' w' h2 ((hb.alloc hbase _).grown h3 (by simp; omega) (fun g hg => (hown.lt g hg).1)) h3)
/-- two rows of different element types lie in different blocks -/
theorem own_own_ne {w : World} {base base' : Nat} {e e' : TypeId} {size size' n n' : Nat} {v v' : Value} {xs xs' : List Value} (h : w.ownsRow base e size v n xs) (h' : w.ownsRow base' e' size' v' n' xs') (hne : e ≠ e') : v.ownBlock = .none ∨ v.ownBlock ≠ v'.ownBlock := by
  rcases h.2 with ⟨rfl, _⟩ | ⟨g, cap, cur, rfl, _, hh, _⟩
  · exact .inl rfl
  · right
    rcases h'.2 with ⟨rfl, _⟩ | ⟨g', cap', cur', rfl, _, hh', _⟩
    · simp [Value.ownBlock]
    · intro he
      have : g = g' := by simpa [Value.ownBlock] using he
      subst this
      rw [hh] at hh'
      injection hh' with hh'
      injection hh' with _ ht
      exact hne ht
/-- the other row, kept over a push -/
theorem own_beside {w w' : World} {o : Obj} {base base' : Nat} {e e' : TypeId} {size size' n n' : Nat} {v v' : Value} {xs xs' : List Value} (h : w.ownsRow base e size v n xs) (h' : w.ownsRow base' e' size' v' n' xs') (hne : e ≠ e') (hg : (w.alloc o).grownBy w' v'.ownBlock) : w'.ownsRow base e size v n xs :=
  (h.alloc o).kept hg (own_own_ne h h' hne)
/-- x & 7 -/
theorem and_low (x : Int) (m : Nat) (hm : m < 9223372036854775808) : ∃ k : Nat, k ≤ m ∧ bits .and .i64 x (m : Int) = (k : Int) := by
  refine ⟨(BitVec.ofInt 64 x &&& BitVec.ofInt 64 (m : Int)).toNat, ?_, ?_⟩
  · rw [BitVec.toNat_and, BitVec.ofInt_natCast, BitVec.toNat_ofNat, Nat.mod_eq_of_lt (by omega)]
    exact Nat.and_le_right
  · show IntKind.i64.wrap ((BitVec.ofInt 64 x &&& BitVec.ofInt 64 (m : Int)).toNat : Int) = _
    have : (BitVec.ofInt 64 x &&& BitVec.ofInt 64 (m : Int)).toNat ≤ m := by
      rw [BitVec.toNat_and, BitVec.ofInt_natCast, BitVec.toNat_ofNat, Nat.mod_eq_of_lt (by omega)]
      exact Nat.and_le_right
    rw [IntKind.wrap_i64]; omega
theorem run_make_rowN {P : Program} (t e : TypeId) (i : TypeInfo) (z : Value) (ht : P.underlying t = some (.slice e)) (hi : P.info? e = some i) (hz : i.zero = some z)
    (kl kc : IntKind) (n c : Nat) (hnc : n ≤ c) (hbytes : i.bytes * c ≤ 281474976710656) (h63 : c ≤ 9223372036854775807) (w : World) :
    (Instr.makeSlice t (.int kl (n : Int)) (.int kc (c : Int))).run P w = .ok (.slice (some ⟨w.heap.size, 0, .none⟩) n c) (w.alloc (.cells (madeCells z.cells (c * i.size)) e)) := by
  have hb : (i.bytes : Int) * (c : Int) ≤ 281474976710656 := by
    have h : ((i.bytes * c : Nat) : Int) ≤ 281474976710656 := by omega
    rwa [Int.natCast_mul] at h
  have hr := run_make (P := P) w t e i z ht hi hz kl kc n c (by omega) (by omega) hb (by omega)
  simp only [Int.toNat_natCast] at hr
  exact hr
/-- '[]T{}' -/
theorem own_empty (w : World) (base : Nat) (e : TypeId) (size : Nat) (hb : base ≤ w.heap.size) : (w.alloc (.cells #[] e)).ownsRow base e size (.slice (some ⟨w.heap.size, 0, .none⟩) 0 0) 0 [] :=
  ⟨by simp, .inr ⟨w.heap.size, 0, #[], rfl, hb, heap_alloc_new w _, Nat.le_refl _, Nat.zero_le _, by simp, by simp⟩⟩
theorem flat_length {α : Type} (f : α → List Value) (size : Nat) (hf : ∀ x, (f x).length = size) (xs : List α) : (xs.flatMap f).length = xs.length * size := by
  induction xs with
  | nil => simp
  | cons x xs ih => rw [List.flatMap_cons, List.length_append, ih, hf, List.length_cons, Nat.add_mul]; omega
theorem flat_at {α : Type} (f : α → List Value) (size : Nat) (hf : ∀ x, (f x).length = size) (xs : List α) (k j : Nat) (hk : k < xs.length) (hj : j < size) : (xs.flatMap f)[k * size + j]? = (f xs[k])[j]? := by
  induction xs generalizing k with
  | nil => simp at hk
  | cons x xs ih =>
    rw [List.flatMap_cons]
    cases k with
    | zero => rw [Nat.zero_mul, Nat.zero_add, List.getElem?_append_left (by rw [hf]; exact hj)]; rfl
    | succ k =>
      rw [List.getElem?_append_right (by rw [hf, Nat.add_mul]; omega), hf, show (k + 1) * size + j - size = k * size + j from by rw [Nat.add_mul]; omega, ih k (by simpa using hk)]
      rfl
theorem flat_snoc {α : Type} (f : α → List Value) (l : List α) (k : Nat) (h : k < l.length) : (l.take (k + 1)).flatMap f = (l.take k).flatMap f ++ f l[k] := by
  rw [List.take_succ_eq_append_getElem h, List.flatMap_append]; simp
theorem map_take_snoc {α β : Type} (f : α → β) (l : List α) (k : Nat) (h : k < l.length) : (l.take (k + 1)).map f = (l.take k).map f ++ [f l[k]] := by
  rw [List.take_succ_eq_append_getElem h, List.map_append]; rfl
theorem Reads.new (w : World) (t : TypeId) (size n : Nat) (cs : List Value) (h : cs.length = n * size) : Reads (w.alloc (.cells cs.toArray t)) (w.heap.size + 1) size (some ⟨w.heap.size, 0, .none⟩) n cs :=
  ⟨h, fun _ => ⟨_, _, rfl, by omega, fun j u hu => by rw [Nat.zero_add, cell_new]; simpa using hu⟩⟩
/-- an owned row at a later world, read -/
theorem own_reads {w w' : World} {base : Nat} {e : TypeId} {size n c : Nat} {A : Option Addr} {xs : List Value} (h : w.ownsRow base e size (.slice A n c) n xs) (hb : Below w.heap.size w w') : Reads w' w.heap.size size A n xs :=
  (Reads.of_own h).below hb
theorem Reads.head {w : World} {B size n m : Nat} {A : Option Addr} {xs ys : List Value} (h : Reads w B size A (n + m) (xs ++ ys)) (hl : xs.length = n * size) : Reads w B size A n xs :=
  ⟨hl, fun hn => by
    obtain ⟨b, off, e, hb, hc⟩ := h.2 (by omega)
    exact ⟨b, off, e, hb, fun j u hu => hc j u (by rw [List.getElem?_append_left (List.getElem?_eq_some_iff.1 hu).1]; exact hu)⟩⟩

/-! contracts that leave the world, offered inside a region that draws its order -/
section
variable {P : Program} {f : FuncId} {args : Array Value} {w : World} {v : Value}
theorem quiet_left {n : Nat} (h : Calls P f args (w.drewN n) fun e w' => e = .returned v ∧ w.drewN n = w') : Calls P f args (w.drewN n) fun e w'' => e = .returned v ∧ ∃ m, w'' = w.drewN m :=
  h.mono fun _ _ ⟨he, hm⟩ => ⟨he, n, hm.symm⟩
theorem quiet_add_left {a n : Nat} (h : Calls P f args (w.drewN (a + n)) fun e w' => e = .returned v ∧ w.drewN (a + n) = w') : Calls P f args (w.drewN (a + n)) fun e w'' => e = .returned v ∧ ∃ m, w'' = w.drewN (a + m) :=
  h.mono fun _ _ ⟨he, hm⟩ => ⟨he, n, hm.symm⟩
theorem quiet_some {n : Nat} (h : Calls P f args (w.drewN n) fun e w' => e = .returned v ∧ ∃ m, w' = (w.drewN n).drewN m) : Calls P f args (w.drewN n) fun e w'' => e = .returned v ∧ ∃ m, w'' = w.drewN m :=
  h.mono fun _ _ ⟨he, m, hm⟩ => ⟨he, n + m, by rw [hm, World.drewN_drewN]⟩
end

/-! []byte(s), one byte of it turned, and back -/
def bytesObj (E : TypeId) (s : ByteArray) (cap : Nat) : Obj := .cells (bytesRow s cap) E ((bytesRow s cap).size, (bytesRow s cap).size + 1)
theorem to_bytes {P : Program} (src dst e : TypeId) (hs : P.underlying src = some .string) (hd : P.underlying dst = some (.slice e)) (he : P.underlying e = some (.int .u8)) (s : ByteArray) (w : World) :
    (convert src dst (.string s)).run P w = .ok (.slice (some ⟨w.heap.size, 0, .none⟩) s.size (grownCap w s.size 0 e)) (w.drew.alloc (bytesObj e s (grownCap w s.size 0 e))) :=
  run_bytes_of_string w src dst e s hs hd he
theorem bytes_cell (w : World) (e : TypeId) (s : ByteArray) (cap k : Nat) (h : k < s.size) : (w.alloc (bytesObj e s cap)).cell? ⟨w.heap.size, k, .none⟩ = some (.int .u8 (s[k].toNat : Int)) := by
  unfold bytesObj; rw [World.cell?_alloc_mark, bytesRow_at s cap k h]; rfl
theorem bytes_frozen (w : World) (e : TypeId) (s : ByteArray) (cap k : Nat) (h : k < s.size) : (w.alloc (bytesObj e s cap)).frozen? ⟨w.heap.size, k, .none⟩ = false := by
  unfold bytesObj; rw [World.frozen?_alloc_mark]
  have : k < (bytesRow s cap).size := by unfold bytesRow; rw [Array.size_append, Array.size_map]; exact Nat.lt_of_lt_of_le h (Nat.le_add_right _ _)
  simp; omega
def turned (s : ByteArray) (k : Nat) (b : UInt8) : ByteArray := ⟨(s.data.toList.set k b).toArray⟩
theorem turned_size (s : ByteArray) (k : Nat) (b : UInt8) : (turned s k b).size = s.size := by
  show (s.data.toList.set k b).toArray.size = s.data.size
  simp
theorem turned_list (s : ByteArray) (k : Nat) (b : UInt8) (h : k < s.size) : (turned s k b).data.toList = s.data.toList.take k ++ b :: s.data.toList.drop (k + 1) := by
  show s.data.toList.set k b = _
  rw [List.set_eq_take_append_cons_drop, if_pos (by simpa using h)]
theorem split_list (s : ByteArray) (k : Nat) (h : k < s.size) : s.data.toList = s.data.toList.take k ++ s[k] :: s.data.toList.drop (k + 1) := by
  have h' : k < s.data.toList.length := by simpa using h
  have e : s[k] = s.data.toList[k] := by simp; rfl
  rw [e, ← List.drop_eq_getElem_cons h', List.take_append_drop]
theorem from_turned {P : Program} (src dst e : TypeId) (hs : P.underlying src = some (.slice e)) (he : P.underlying e = some (.int .u8)) (hd : P.underlying dst = some .string) (s : ByteArray) (k : Nat) (b : UInt8) (hk : k < s.size) (cap c : Nat) (w : World) :
    (convert src dst (.slice (some ⟨w.heap.size, 0, .none⟩) s.size cap)).run P ((w.alloc (bytesObj e s c)).setCell ⟨w.heap.size, k, .none⟩ (.int .u8 (b.toNat : Int))) = .ok (.string (turned s k b)) ((w.alloc (bytesObj e s c)).setCell ⟨w.heap.size, k, .none⟩ (.int .u8 (b.toNat : Int))) := by
  have h := run_convert_bytes_back (P := P) ((w.alloc (bytesObj e s c)).setCell ⟨w.heap.size, k, .none⟩ (.int .u8 (b.toNat : Int))) src dst e ⟨w.heap.size, 0, .none⟩ cap (s.data.toList.set k b) hs he hd (fun j hj => by
    have hj' : j < s.size := by simpa using hj
    rw [add_mk, Nat.zero_add]
    by_cases e : j = k
    · subst e
      rw [List.getElem_set_self]
      exact World.cell?_setCell_same _ _ _ (bytes_cell w _ s c j hj')
    · rw [World.cell?_setCell_other _ _ _ _ (fun h => e (by injection h with _ h2 _; exact h2.symm)), bytes_cell w _ s c j hj', List.getElem_set_ne (fun h => e h.symm)]
      congr 2)
  have hl : (s.data.toList.set k b).length = s.size := by simp
  rw [hl] at h
  exact h
theorem from_turned_drew {P : Program} (src dst e : TypeId) (hs : P.underlying src = some (.slice e)) (he : P.underlying e = some (.int .u8)) (hd : P.underlying dst = some .string) (s : ByteArray) (k : Nat) (b : UInt8) (hk : k < s.size) (cap c : Nat) (w : World) :
    (convert src dst (.slice (some ⟨w.heap.size, 0, .none⟩) s.size cap)).run P ((w.alloc (bytesObj e s c)).setCell ⟨w.heap.size, k, .none⟩ (.int .u8 (b.toNat : Int))).drew = .ok (.string (turned s k b)) ((w.alloc (bytesObj e s c)).setCell ⟨w.heap.size, k, .none⟩ (.int .u8 (b.toNat : Int))).drew :=
  from_turned src dst e hs he hd s k b hk cap c w.drew

/-- int(uint(x) % uint(n)) -/
theorem pick_of (x : Int) (n : Nat) (h : 0 < n) (hn : n ≤ 9223372036854775807) : ∃ k : Nat, k < n ∧ wrap64 ((IntKind.u64.wrap x).tmod (n : Int)) = (k : Int) := by
  have h0 : 0 ≤ IntKind.u64.wrap x := by rw [IntKind.wrap_u64]; omega
  rw [Int.tmod_eq_emod_of_nonneg h0]
  have h1 : 0 ≤ IntKind.u64.wrap x % (n : Int) := Int.emod_nonneg _ (by omega)
  have h2 : IntKind.u64.wrap x % (n : Int) < n := Int.emod_lt_of_pos _ (by omega)
  refine ⟨(IntKind.u64.wrap x % (n : Int)).toNat, by omega, ?_⟩
  rw [IntWalk.wrap64_in _ ⟨by omega, by omega⟩]
  omega
/-- b ^ byte(1 + int(uint(x) % 255)): another byte than b -/
theorem turn_of (x : Int) (b : UInt8) : ∃ d : UInt8, d ≠ b ∧ bits .xor .u8 (b.toNat : Int) (wrap64 (1 + wrap64 ((IntKind.u64.wrap x).tmod 255)) % 256) = (d.toNat : Int) := by
  obtain ⟨m, hm, hk⟩ := pick_of x 255 (by omega) (by omega)
  rw [show ((255 : Nat) : Int) = 255 from rfl] at hk
  have hb := b.toNat_lt
  rw [hk, IntWalk.wrap64_in _ ⟨by omega, by omega⟩, show (1 + (m : Int)) % 256 = ((1 + m : Nat) : Int) from by omega, u8_xor_nat _ _ (by omega) (by omega)]
  refine ⟨b ^^^ UInt8.ofNat (1 + m), fun e => ?_, ?_⟩
  · have : b ^^^ (b ^^^ UInt8.ofNat (1 + m)) = b ^^^ b := by rw [e]
    rw [← UInt8.xor_assoc, UInt8.xor_self, UInt8.zero_xor] at this
    have := congrArg UInt8.toNat this
    rw [UInt8.toNat_ofNat'] at this
    simp at this
    omega
  · rw [UInt8.toNat_xor, UInt8.toNat_ofNat']
    congr 2
    omega
theorem empty_of {s : ByteArray} (h : s.size = 0) : s = ⟨#[]⟩ := by
  apply ByteArray.ext; exact Array.eq_empty_of_size_eq_zero h
theorem nonempty_of {s : ByteArray} (h : ¬ s.size = 0) : s.toList.isEmpty = false := by
  rw [Lib.toList_data]
  cases hl : s.data.toList with
  | nil => exact absurd (by show s.data.size = 0; rw [← Array.length_toList, hl]; rfl) h
  | cons => rfl
end Go.Proofs.YtmnigoibbcigdaaGreat
/- A frame by blocks: a call changes, of the blocks that were there, those of a set alone. -/
namespace Go.Proofs.YtmnigoibbcigdaaGreat
open Go.RowKit

/-- w' is w with new blocks, and of the elder blocks those of S alone may have changed -/
structure Only (S : Nat → Prop) (w w' : World) : Prop where
  os : w'.os = w.os
  tape : w'.tape = w.tape
  output : w'.output = w.output
  size : w.heap.size ≤ w'.heap.size
  block : ∀ k, k < w.heap.size → ¬ S k → w'.heap[k]? = w.heap[k]?
section
variable {S S' : Nat → Prop} {w w' w1 w2 : World} {B : Nat}
theorem Only.refl (S : Nat → Prop) (w : World) : Only S w w := ⟨rfl, rfl, rfl, Nat.le_refl _, fun _ _ _ => rfl⟩
theorem Only.trans (h : Only S w w1) (k : Only S' w1 w2) (hs : ∀ j, j < w.heap.size → S' j → S j) : Only S w w2 :=
  ⟨k.os.trans h.os, k.tape.trans h.tape, k.output.trans h.output, Nat.le_trans h.size k.size,
    fun j hj hn => (k.block j (Nat.lt_of_lt_of_le hj h.size) (fun e => hn (hs j hj e))).trans (h.block j hj hn)⟩
theorem Only.mono (h : Only S w w') (hs : ∀ j, j < w.heap.size → S j → S' j) : Only S' w w' :=
  ⟨h.os, h.tape, h.output, h.size, fun j hj hn => h.block j hj (fun e => hn (hs j hj e))⟩
theorem Only.drewN (h : Only S w w1) (n : Nat) : Only S w (w1.drewN n) := ⟨h.os, h.tape, h.output, h.size, h.block⟩
theorem Only.drew (h : Only S w w1) : Only S w w1.drew := ⟨h.os, h.tape, h.output, h.size, h.block⟩
theorem Only.alloc (h : Only S w w1) (o : Obj) : Only S w (w1.alloc o) :=
  ⟨h.os, h.tape, h.output, by simp; exact Nat.le_succ_of_le h.size, fun k hk hn => (Below.heap_alloc w1 o k (Nat.lt_of_lt_of_le hk h.size)).trans (h.block k hk hn)⟩
theorem Only.setCell (h : Only S w w1) {p : Addr} (hp : p.block < w.heap.size → S p.block) (u : Value) : Only S w (w1.setCell p u) :=
  ⟨h.os, h.tape, h.output, by simpa [World.setCell] using h.size, fun k hk hn => by
    refine (Below.heap_setCell w1 p u k ?_).trans (h.block k hk hn)
    rintro rfl
    exact hn (hp hk)⟩
theorem Only.of_below (hb : Below B w w') (hs : ∀ k, B ≤ k → k < w.heap.size → S k) : Only S w w' :=
  ⟨hb.os, hb.tape, hb.output, hb.size, fun k hk hn => by
    rcases Nat.lt_or_ge k B with h | h
    · exact hb.block k h
    · exact absurd (hs k h hk) hn⟩
theorem Only.new (S : Nat → Prop) (hb : Below w.heap.size w w') : Only S w w' := Only.of_below hb fun k h1 h2 => absurd h1 (by omega)
theorem Only.below (h : Only S w w') (hs : ∀ k, k < B → ¬ S k) (hB : B ≤ w.heap.size) : Below B w w' :=
  ⟨h.os, h.tape, h.output, h.size, fun k hk => h.block k (by omega) (hs k hk)⟩
theorem Only.of_grown {row : Option Nat} (h : w.grownBy w' row) (hs : ∀ k, row = some k → k < w.heap.size → S k) : Only S w w' :=
  ⟨h.os, h.tape, h.output, h.size, fun k hk hn => h.block k hk (fun e => hn (hs k e.symm hk))⟩
theorem Blk.only {g : Nat} {t : TypeId} {cs : Array Value} (h : Blk w g t cs) (ho : Only S w w') (hg : ¬ S g) : Blk w' g t cs := (ho.block g h.lt hg).trans h
theorem Only.cell (ho : Only S w w') {p : Addr} (hp : p.block < w.heap.size) (hs : ¬ S p.block) : w'.cell? p = w.cell? p := World.cell?_of_block (w := w) (ho.block p.block hp hs)
theorem Only.frozen (ho : Only S w w') {p : Addr} (hp : p.block < w.heap.size) (hs : ¬ S p.block) : w'.frozen? p = w.frozen? p := World.frozen?_of_block (w := w) (ho.block p.block hp hs)
theorem Reads.only {size n : Nat} {A : Option Addr} {xs : List Value} (h : Reads w B size A n xs) (ho : Only S w w') (hB : B ≤ w.heap.size) (hs : ∀ k, k < B → ¬ S k) : Reads w' B size A n xs :=
  h.keep fun p hp => ho.cell (by omega) (hs _ hp)
theorem own_only {base : Nat} {e : TypeId} {size n : Nat} {v : Value} {xs : List Value} (h : w.ownsRow base e size v n xs) (ho : Only S w w') (hs : ∀ g, v.ownBlock = some g → ¬ S g) : w'.ownsRow base e size v n xs := by
  refine ⟨h.1, ?_⟩
  rcases h.2 with h0 | ⟨g, cap, cur, rfl, hg, hh, hr⟩
  · exact .inl h0
  · refine .inr ⟨g, cap, cur, rfl, hg, ?_, hr⟩
    have hlt : g < w.heap.size := Blk.lt (t := e) hh
    exact (ho.block g hlt (hs g rfl)).trans hh
theorem own_lt {base : Nat} {e : TypeId} {size n : Nat} {v : Value} {xs : List Value} (h : w.ownsRow base e size v n xs) {g : Nat} (hg : v.ownBlock = some g) : base ≤ g ∧ g < w.heap.size := h.lt g hg
end
/-- 'out = append(out, x)', with the frame by blocks -/
theorem wpList_push_only {P : Program} (w : World) {ops : Array Oper} {rest : List Oper} {o : Oper} {a : Act} {Q : Exit → Act → World → Prop} (hgd : o.guard = .none) (s x : Operand) (t : TypeId)
    (ho : o.op = .call { callee := .builtin .append, args := #[s, x], argTypes := #[t, t] })
    (base : Nat) (e : TypeId) (i : TypeInfo) (z : Value) (size bytes : Nat) (ht : P.underlying t = some (.slice e)) (hi : P.info? e = some i) (hz : i.zero = some z)
    (hsize : i.size = size) (hby : i.bytes = bytes) (hzs : z.cells.size = size) (hsz : 0 < size)
    (v : Value) (n : Nat) (xs : List Value) (hs : a.eval s = v) (hown : w.ownsRow base e size v n xs)
    (news : List Value) (hx : a.eval x = .slice (some ⟨w.heap.size, 0, .none⟩) 1 1) (hl : news.length = size) (h1 : ∀ u ∈ news, u.oneCell' = true)
    (hmax : n + 1 ≤ maxLen) (hbytes : (n + 1) * bytes ≤ 140737488355328) (hbase : base ≤ w.heap.size)
    (h : ∀ v' w', w'.ownsRow base e size v' (n + 1) (xs ++ news) → Only (fun k => v.ownBlock = some k) w w' → (∀ g, v'.ownBlock = some g → v.ownBlock = some g ∨ w.heap.size ≤ g) → wpList P ops Q rest (a.put o.dst v') w') :
    wpList P ops Q (o :: rest) a (w.alloc (.cells news.toArray e)) :=
  wpList_append_own_at _ hgd s x t ho base e i z size bytes ht hi hz hsize hby hzs hsz v n xs hs (hown.alloc _) ⟨w.heap.size, 0, .none⟩ 1 1 news hx (by rw [hl, Nat.one_mul])
    (fun j u hu => by rw [add_mk, Nat.zero_add, cell_new]; simpa using hu) h1 hmax hbytes (by simp; omega)
    (fun v' w' h2 h3 _ h5 => h v' w' h2 (((Only.refl _ w).alloc _).trans (Only.of_grown (S := fun k => v.ownBlock = some k) h3 (fun k hk _ => hk)) (fun _ _ h => h))
      (fun g hg => by
        rcases h5 with h5 | h5
        · exact .inl (h5 ▸ hg)
        · rw [hg] at h5
          injection h5 with h5
          right
          rw [h5]; simp))
/-- the same, the new element's block under another spelling -/
theorem wpList_push_at {P : Program} (w : World) {ops : Array Oper} {rest : List Oper} {o : Oper} {a : Act} {Q : Exit → Act → World → Prop} (hgd : o.guard = .none) (s x : Operand) (t : TypeId)
    (ho : o.op = .call { callee := .builtin .append, args := #[s, x], argTypes := #[t, t] })
    (base : Nat) (e : TypeId) (i : TypeInfo) (z : Value) (size bytes : Nat) (ht : P.underlying t = some (.slice e)) (hi : P.info? e = some i) (hz : i.zero = some z)
    (hsize : i.size = size) (hby : i.bytes = bytes) (hzs : z.cells.size = size) (hsz : 0 < size)
    (v : Value) (n : Nat) (xs : List Value) (hs : a.eval s = v) (hown : w.ownsRow base e size v n xs)
    (news : List Value) (g0 : Nat) (hg0 : w.heap.size = g0) (hx : a.eval x = .slice (some ⟨g0, 0, .none⟩) 1 1) (hl : news.length = size) (h1 : ∀ u ∈ news, u.oneCell' = true)
    (hmax : n + 1 ≤ maxLen) (hbytes : (n + 1) * bytes ≤ 140737488355328) (hbase : base ≤ w.heap.size)
    (h : ∀ v' w', w'.ownsRow base e size v' (n + 1) (xs ++ news) → Only (fun k => v.ownBlock = some k) w w' → (∀ g, v'.ownBlock = some g → v.ownBlock = some g ∨ w.heap.size ≤ g) → wpList P ops Q rest (a.put o.dst v') w') :
    wpList P ops Q (o :: rest) a (w.alloc (.cells news.toArray e)) := by
  subst hg0
  exact wpList_push_only w hgd s x t ho base e i z size bytes ht hi hz hsize hby hzs hsz v n xs hs hown news hx hl h1 hmax hbytes hbase h
end Go.Proofs.YtmnigoibbcigdaaGreat
/- Plain facts on numbers and texts as bytes (chapter 2): what is written, what is read, there and back. No program in sight. -/
namespace Go.Proofs.YtmnigoibbcigdaaGreat.Wr
set_option linter.unusedVariables false

def isNum (x : Int) : Bool := decide (-9007199254740992 ≤ x) && decide (x ≤ 9007199254740992)
def zig (x : Int) : Nat := if x < 0 then (-2 * x - 1).toNat else (2 * x).toNat
def unzig (z : Nat) : Int := if z % 2 = 1 then -((z / 2 : Nat) : Int) - 1 else ((z / 2 : Nat) : Int)
theorem isNum_iff (x : Int) : isNum x = true ↔ -9007199254740992 ≤ x ∧ x ≤ 9007199254740992 := by simp [isNum]
theorem isNum_false (x : Int) : isNum x = false ↔ ¬ (-9007199254740992 ≤ x ∧ x ≤ 9007199254740992) := by
  rw [← isNum_iff]; simp
theorem unzig_zig (x : Int) : unzig (zig x) = x := by
  unfold unzig zig
  by_cases h : x < 0
  · rw [if_pos h, if_pos (by omega)]; omega
  · rw [if_neg h, if_neg (by omega)]; omega
theorem zig_unzig (z : Nat) : zig (unzig z) = z := by
  unfold unzig zig
  by_cases h : z % 2 = 1
  · rw [if_pos h, if_pos (by omega)]; omega
  · rw [if_neg h, if_neg (by omega)]; omega
theorem zig_lt (x : Int) (h : isNum x = true) : zig x ≤ 18014398509481984 := by
  rw [isNum_iff] at h
  unfold zig; split <;> omega

/-- the bytes of a number: groups of seven bits, the least first -/
def vb : Nat → Nat → List UInt8
  | 0, z => [UInt8.ofNat z]
  | n + 1, z => if z < 128 then [UInt8.ofNat z] else UInt8.ofNat (z % 128 + 128) :: vb n (z / 128)
def putL (x : Int) : List UInt8 := if isNum x then vb 9 (zig x) else []
def putB (x : Int) : ByteArray := ⟨(putL x).toArray⟩
theorem vb_small (n z : Nat) (h : z < 128) : vb n z = [UInt8.ofNat z] := by
  cases n with
  | zero => rfl
  | succ n => unfold vb; rw [if_pos h]
theorem vb_more (n z : Nat) (h : ¬ z < 128) : vb (n + 1) z = UInt8.ofNat (z % 128 + 128) :: vb n (z / 128) := by
  rw [vb, if_neg h]
theorem vb_pos (n z : Nat) : 0 < (vb n z).length := by
  cases n with
  | zero => simp [vb]
  | succ n => unfold vb; split <;> simp
theorem vb_len (n z k : Nat) (h : z < 128 ^ (k + 1)) : (vb n z).length ≤ k + 1 := by
  induction n generalizing z k with
  | zero => simp [vb]
  | succ n ih =>
    by_cases hz : z < 128
    · rw [vb_small _ _ hz]; simp
    · rw [vb_more _ _ hz]
      cases k with
      | zero => simp at h; omega
      | succ k =>
        have : z / 128 < 128 ^ (k + 1) := by
          rw [Nat.pow_succ] at h
          exact Nat.div_lt_of_lt_mul (by rw [Nat.mul_comm]; exact h)
        have := ih (z / 128) k this
        simp; omega
theorem putL_len (x : Int) : (putL x).length ≤ 8 := by
  unfold putL
  by_cases h : isNum x = true
  · rw [if_pos h]
    have := zig_lt x h
    exact vb_len 9 _ 7 (by simp; omega)
  · rw [if_neg h]; simp

/-- what the bytes from here on are as a number: an error's code, or the number and how many bytes; n: how many may still come, i: how many were read, u: what they gave -/
def gn : Nat → Nat → Nat → List UInt8 → Sum Int (Int × Nat)
  | 0, _, _, _ => .inl 201
  | _ + 1, _, _, [] => .inl 200
  | n + 1, i, u, c :: l =>
    if 128 ≤ c.toNat then gn n (i + 1) (u + c.toNat % 128 * 128 ^ i) l
    else if c.toNat = 0 ∧ 0 < i then .inl 201
    else if isNum (unzig (u + c.toNat % 128 * 128 ^ i)) then .inr (unzig (u + c.toNat % 128 * 128 ^ i), i + 1) else .inl 201
/-- what GetNum answers: the number, the place behind it, the error's code -/
def getN (l : List UInt8) (at_ : Int) : Int × Int × Int :=
  if at_ < 0 ∨ (l.length : Int) < at_ then (0, 0, 200)
  else match gn 8 0 0 (l.drop at_.toNat) with
    | .inl e => (0, 0, e)
    | .inr (x, k) => (x, at_ + (k : Int), 0)

theorem gn_zero (i u : Nat) (l : List UInt8) : gn 0 i u l = .inl 201 := by unfold gn; rfl
theorem gn_nil (n i u : Nat) : gn (n + 1) i u [] = .inl 200 := by unfold gn; rfl
theorem gn_more (n i u : Nat) (c : UInt8) (l : List UInt8) (h : 128 ≤ c.toNat) : gn (n + 1) i u (c :: l) = gn n (i + 1) (u + c.toNat % 128 * 128 ^ i) l := by
  rw [gn, if_pos h]
theorem gn_long (n i u : Nat) (c : UInt8) (l : List UInt8) (h : c.toNat = 0) (hi : 0 < i) : gn (n + 1) i u (c :: l) = .inl 201 := by
  rw [gn, if_neg (by omega), if_pos ⟨h, hi⟩]
theorem gn_last (n i u : Nat) (c : UInt8) (l : List UInt8) (h : c.toNat < 128) (hz : ¬ (c.toNat = 0 ∧ 0 < i)) : gn (n + 1) i u (c :: l) = if isNum (unzig (u + c.toNat % 128 * 128 ^ i)) then .inr (unzig (u + c.toNat % 128 * 128 ^ i), i + 1) else .inl 201 := by
  rw [gn, if_neg (by omega), if_neg hz]

theorem toNat_ofNat_small (z : Nat) (h : z < 256) : (UInt8.ofNat z).toNat = z := by rw [UInt8.toNat_ofNat']; omega

/-- what was written is read, whatever stands behind -/
theorem gn_vb (m n i u z : Nat) (rest : List UInt8) (hm : z < 128 ^ (m + 1)) (hn : (vb m z).length ≤ n) (hz : i = 0 ∨ 0 < z) (hx : isNum (unzig (u + z * 128 ^ i)) = true) :
    gn n i u (vb m z ++ rest) = .inr (unzig (u + z * 128 ^ i), i + (vb m z).length) := by
  induction m generalizing n i u z with
  | zero =>
    have hz' : z < 128 := by simpa using hm
    rw [vb_small _ _ hz'] at hn ⊢
    cases n with
    | zero => simp at hn
    | succ n =>
      rw [List.cons_append, gn_last _ _ _ _ _ (by rw [toNat_ofNat_small _ (by omega)]; exact hz') (by rw [toNat_ofNat_small _ (by omega)]; omega), toNat_ofNat_small _ (by omega), Nat.mod_eq_of_lt hz', if_pos hx]
      rfl
  | succ m ih =>
    by_cases hz' : z < 128
    · rw [vb_small _ _ hz'] at hn ⊢
      cases n with
      | zero => simp at hn
      | succ n =>
        rw [List.cons_append, gn_last _ _ _ _ _ (by rw [toNat_ofNat_small _ (by omega)]; exact hz') (by rw [toNat_ofNat_small _ (by omega)]; omega), toNat_ofNat_small _ (by omega), Nat.mod_eq_of_lt hz', if_pos hx]
        rfl
    · rw [vb_more _ _ hz'] at hn ⊢
      cases n with
      | zero => simp at hn
      | succ n =>
        rw [List.cons_append, gn_more _ _ _ _ _ (by rw [toNat_ofNat_small _ (by omega)]; omega), toNat_ofNat_small _ (by omega)]
        have e : u + (z % 128 + 128) % 128 * 128 ^ i + z / 128 * 128 ^ (i + 1) = u + z * 128 ^ i := by
          rw [Nat.pow_succ, Nat.add_mod_right, Nat.mod_mod]
          have h1 : z / 128 * (128 ^ i * 128) = (128 * (z / 128)) * 128 ^ i := by
            rw [Nat.mul_comm (128 ^ i) 128, ← Nat.mul_assoc, Nat.mul_comm (z / 128) 128]
          rw [h1, Nat.add_assoc, ← Nat.add_mul, Nat.add_comm (z % 128), Nat.div_add_mod]
        have hd : z / 128 < 128 ^ (m + 1) := by
          rw [Nat.pow_succ] at hm
          exact Nat.div_lt_of_lt_mul (by rw [Nat.mul_comm]; exact hm)
        have := ih n (i + 1) (u + (z % 128 + 128) % 128 * 128 ^ i) (z / 128) hd (by simp at hn; omega) (.inr (by omega)) (by rw [e]; exact hx)
        rw [this, e]
        simp only [List.length_cons]
        congr 2
        omega
theorem gn_put (x : Int) (h : isNum x = true) (rest : List UInt8) : gn 8 0 0 (putL x ++ rest) = .inr (x, (putL x).length) := by
  have hl := putL_len x
  unfold putL at hl ⊢
  rw [if_pos h] at hl ⊢
  have hz := zig_lt x h
  have := gn_vb 9 8 0 0 (zig x) rest (by simp; omega) hl (.inl rfl) (by simp [unzig_zig, h])
  simpa [unzig_zig] using this
/-- what is read was written so -/
theorem vb_gn (n i u : Nat) (l : List UInt8) (x : Int) (k : Nat) (h : gn n i u l = .inr (x, k)) :
    ∃ z, x = unzig (u + z * 128 ^ i) ∧ isNum x = true ∧ i < k ∧ k - i ≤ l.length ∧ (0 < i → 0 < z) ∧ ∀ m, n ≤ m + 1 → l.take (k - i) = vb m z := by
  induction n generalizing i u l with
  | zero => rw [gn_zero] at h; cases h
  | succ n ih =>
    cases l with
    | nil => rw [gn_nil] at h; cases h
    | cons c l =>
      have hc := c.toNat_lt
      by_cases h1 : 128 ≤ c.toNat
      · rw [gn_more _ _ _ _ _ h1] at h
        obtain ⟨z, hx, hn, hik, hl, hz, hv⟩ := ih _ _ _ h
        have hz0 := hz (by omega)
        refine ⟨c.toNat % 128 + 128 * z, ?_, hn, by omega, by simp only [List.length_cons]; omega, fun _ => by omega, fun m hm => ?_⟩
        · rw [hx]
          congr 1
          rw [Nat.pow_succ, Nat.add_mul, Nat.add_assoc, Nat.mul_comm 128 z, Nat.mul_assoc, Nat.mul_comm 128 (128 ^ i)]
        · cases m with
          | zero =>
            have hn0 : n = 0 := by omega
            subst hn0
            rw [gn_zero] at h; cases h
          | succ m =>
            rw [vb_more m _ (by omega), show k - i = (k - (i + 1)) + 1 from by omega, List.take_succ_cons, hv m (by omega)]
            congr 1
            · apply UInt8.toNat_inj.1
              rw [toNat_ofNat_small _ (by omega)]; omega
            · congr 1; omega
      · by_cases h2 : c.toNat = 0 ∧ 0 < i
        · rw [gn_long _ _ _ _ _ h2.1 h2.2] at h; cases h
        · rw [gn_last _ _ _ _ _ (by omega) h2] at h
          by_cases h3 : isNum (unzig (u + c.toNat % 128 * 128 ^ i)) = true
          · rw [if_pos h3] at h
            injection h with h
            injection h with hx hk
            subst hx; subst hk
            refine ⟨c.toNat, by rw [Nat.mod_eq_of_lt (by omega)], by rw [← h3], by omega, by simp only [List.length_cons]; omega, fun hi => by omega, fun m _ => ?_⟩
            rw [vb_small _ _ (by omega), show i + 1 - i = 1 from by omega]
            simp
          · rw [if_neg h3] at h; cases h
theorem put_gn (l : List UInt8) (x : Int) (k : Nat) (h : gn 8 0 0 l = .inr (x, k)) : isNum x = true ∧ k ≤ l.length ∧ 0 < k ∧ putL x = l.take k := by
  obtain ⟨z, hx, hn, hik, hl, _, hv⟩ := vb_gn _ _ _ _ _ _ h
  refine ⟨hn, by simpa using hl, by omega, ?_⟩
  have hzx : zig x = z := by rw [hx]; simp [zig_unzig]
  unfold putL
  rw [if_pos hn, hzx]
  have := hv 9 (by omega)
  simpa using this.symm

theorem gn_code (n i u : Nat) (l : List UInt8) (e : Int) (h : gn n i u l = .inl e) : e = 200 ∨ e = 201 := by
  induction n generalizing i u l with
  | zero => rw [gn_zero] at h; injection h with h; exact .inr h.symm
  | succ n ih =>
    cases l with
    | nil => rw [gn_nil] at h; injection h with h; exact .inl h.symm
    | cons c l =>
      by_cases h1 : 128 ≤ c.toNat
      · rw [gn_more _ _ _ _ _ h1] at h; exact ih _ _ _ h
      · by_cases h2 : c.toNat = 0 ∧ 0 < i
        · rw [gn_long _ _ _ _ _ h2.1 h2.2] at h; injection h with h; exact .inr h.symm
        · rw [gn_last _ _ _ _ _ (by omega) h2] at h
          by_cases h3 : isNum (unzig (u + c.toNat % 128 * 128 ^ i)) = true
          · rw [if_pos h3] at h; cases h
          · rw [if_neg h3] at h; injection h with h; exact .inr h.symm
theorem getN_cases (l : List UInt8) (at_ : Int) : (∃ e : Int, getN l at_ = (0, 0, e) ∧ (e = 200 ∨ e = 201)) ∨
    ∃ (x : Int) (a k : Nat), at_ = a ∧ getN l at_ = (x, ((a + k : Nat) : Int), 0) ∧ isNum x = true ∧ 0 < k ∧ a + k ≤ l.length ∧ putL x = (l.drop a).take k := by
  unfold getN
  by_cases h : at_ < 0 ∨ (l.length : Int) < at_
  · left; exact ⟨200, by rw [if_pos h], .inl rfl⟩
  · rw [if_neg h]
    cases hg : gn 8 0 0 (l.drop at_.toNat) with
    | inl e => left; exact ⟨e, rfl, gn_code _ _ _ _ _ hg⟩
    | inr p =>
      obtain ⟨x, k⟩ := p
      obtain ⟨h1, h2, h3, h4⟩ := put_gn _ _ _ hg
      right
      rw [List.length_drop] at h2
      refine ⟨x, at_.toNat, k, by omega, ?_, h1, h3, by omega, h4⟩
      show (x, at_ + (k : Int), (0 : Int)) = _
      congr 2; omega
theorem putB_size (x : Int) : (putB x).size = (putL x).length := by
  show (putL x).toArray.size = _
  rw [List.size_toArray]
/-- what GetText answers -/
def getT (s : ByteArray) (at_ most : Int) : ByteArray × Int × Int :=
  if (getN s.data.toList at_).2.2 ≠ 0 then (⟨#[]⟩, 0, (getN s.data.toList at_).2.2)
  else if (getN s.data.toList at_).1 < 0 ∨ most < (getN s.data.toList at_).1 then (⟨#[]⟩, 0, 202)
  else if (s.size : Int) - (getN s.data.toList at_).2.1 < (getN s.data.toList at_).1 then (⟨#[]⟩, 0, 200)
  else (s.extract (getN s.data.toList at_).2.1.toNat ((getN s.data.toList at_).2.1 + (getN s.data.toList at_).1).toNat, (getN s.data.toList at_).2.1 + (getN s.data.toList at_).1, 0)
def textB (s : ByteArray) : ByteArray := putB (s.size : Int) ++ s

/-! how the walk spells it -/
theorem or_128 : ∀ n : Fin 256, n.1 ||| 128 = n.1 % 128 + 128 := by decide +kernel
theorem vb_byte (z : Nat) : bits .or .u8 ((z : Int) % 256) 128 = ((z % 128 + 128 : Nat) : Int) := by
  have e : ((z : Int) % 256) = ((z % 256 : Nat) : Int) := by omega
  have h := u8_or_nat (z % 256) 128 (by omega) (by omega)
  have o := or_128 ⟨z % 256, by omega⟩
  simp only at o
  rw [o] at h
  rw [e]
  exact h.trans (by congr 1; omega)
theorem and_127 : ∀ n : Fin 256, n.1 &&& 127 = n.1 % 128 := by decide +kernel
theorem low7 (c : UInt8) : bits .and .u8 (c.toNat : Int) 127 = ((c.toNat % 128 : Nat) : Int) := by
  have h := u8_and_nat c.toNat 127 c.toNat_lt (by omega)
  rw [and_127 ⟨c.toNat, c.toNat_lt⟩] at h
  exact h
theorem two_pow_7 (k : Nat) : (2 : Int) ^ (7 * k) = ((128 ^ k : Nat) : Int) := by
  rw [show (128 : Nat) ^ k = 2 ^ (7 * k) from by rw [Nat.pow_mul]]
  exact (Int.natCast_pow 2 (7 * k)).symm
theorem pow_le_8 (k : Nat) (h : k < 8) : 128 ^ k ≤ 562949953421312 := by
  have := Nat.pow_le_pow_right (n := 128) (by omega) (show k ≤ 7 by omega)
  omega
theorem gn_acc (u k : Nat) (c : UInt8) (hk : k < 8) (hu : u < 128 ^ k) :
    bits .or .u64 (u : Int) (IntKind.u64.wrap (IntKind.u64.wrap (bits .and .u8 (c.toNat : Int) 127) * 2 ^ (7 * k))) = ((u + c.toNat % 128 * 128 ^ k : Nat) : Int) := by
  have hp := pow_le_8 k hk
  have hc : c.toNat % 128 < 128 := Nat.mod_lt _ (by omega)
  have hm : c.toNat % 128 * 128 ^ k ≤ 127 * 562949953421312 := Nat.mul_le_mul (by omega) hp
  have e1 : IntKind.u64.wrap ((c.toNat % 128 : Nat) : Int) = ((c.toNat % 128 : Nat) : Int) := IntWalk.u64_in _ ⟨by omega, by omega⟩
  rw [low7, e1, two_pow_7, ← Int.natCast_mul, IntWalk.u64_in _ ⟨by omega, by omega⟩, u64_or_nat _ _ (by omega) (by omega), Nat.or_comm]
  congr 1
  have hb : 128 ^ k = 2 ^ (7 * k) := by rw [Nat.pow_mul]
  rw [nat_join (7 * k) _ _ (by rw [hb]; exact Nat.mul_mod_left _ _) (by rw [← hb]; exact hu), Nat.add_comm]
theorem gn_acc_lt (u k : Nat) (c : UInt8) (hu : u < 128 ^ k) : u + c.toNat % 128 * 128 ^ k < 128 ^ (k + 1) := by
  have hc : c.toNat % 128 < 128 := Nat.mod_lt _ (by omega)
  have : (c.toNat % 128 + 1) * 128 ^ k ≤ 128 * 128 ^ k := Nat.mul_le_mul_right _ (by omega)
  rw [Nat.pow_succ, Nat.mul_comm (128 ^ k) 128]
  rw [Nat.add_mul] at this
  omega
theorem acc_le (u k : Nat) (h : k ≤ 8) (hu : u < 128 ^ k) : u ≤ 72057594037927935 := by
  have := Nat.pow_le_pow_right (n := 128) (by omega) h
  omega
theorem low1 (u : Nat) (h : u < 18446744073709551616) : bits .and .u64 (u : Int) 1 = ((u % 2 : Nat) : Int) := by
  have := u64_and_nat u 1 h (by omega)
  rw [nat_mask1] at this
  exact this
theorem low1_yes (u : Nat) (h : u < 18446744073709551616) (h1 : u % 2 = 1) : (bits .and .u64 (u : Int) 1 == 1) = true := by rw [low1 u h, h1]; rfl
theorem low1_no (u : Nat) (h : u < 18446744073709551616) (h1 : ¬ u % 2 = 1) : (bits .and .u64 (u : Int) 1 == 1) = false := by
  rw [low1 u h, show u % 2 = 0 from by omega]; rfl
theorem unzig_odd (u : Nat) (h : u % 2 = 1) : unzig u = -((u : Int) / 2) - 1 := by unfold unzig; rw [if_pos h]; omega
theorem unzig_even (u : Nat) (h : ¬ u % 2 = 1) : unzig u = (u : Int) / 2 := by unfold unzig; rw [if_neg h]; omega
theorem pow_le_9 (k : Nat) (h : k ≤ 8) : 128 ^ k ≤ 72057594037927936 := by
  have := Nat.pow_le_pow_right (n := 128) (by omega) h
  omega
theorem racc (u c p : Nat) (h : u + c % 128 * p ≤ 72057594037927935) : RowKit.wrap64 ((u : Int) + RowKit.wrap64 ((c : Int) % 128 * (p : Int))) = ((u + c % 128 * p : Nat) : Int) := by
  have e : ((c : Int) % 128 * (p : Int)) = ((c % 128 * p : Nat) : Int) := by rw [Int.natCast_mul]; congr 1
  rw [e]
  generalize c % 128 * p = q at *
  rw [IntWalk.wrap64_in (q : Int) ⟨by omega, by omega⟩, IntWalk.wrap64_in _ ⟨by omega, by omega⟩]
  omega
theorem vb_next (z n : Nat) (h : z < 128 ^ (n + 1)) : z / 128 < 128 ^ n := by
  rw [Nat.pow_succ] at h
  exact Nat.div_lt_of_lt_mul (by rw [Nat.mul_comm]; exact h)
end Go.Proofs.YtmnigoibbcigdaaGreat.Wr
/- Plain facts on what was cut or lengthened, and texts there and back (chapter 2). No program in sight. -/
namespace Go.Proofs.YtmnigoibbcigdaaGreat.Wr
set_option linter.unusedVariables false

theorem gn_big (l rest : List UInt8) (n i u : Nat) (h : ∀ c ∈ l, 128 ≤ c.toNat) (hl : l.length ≤ n) : ∃ u', gn n i u (l ++ rest) = gn (n - l.length) (i + l.length) u' rest := by
  induction l generalizing n i u with
  | nil => exact ⟨u, by simp⟩
  | cons c l ih =>
    cases n with
    | zero => simp at hl
    | succ n =>
      rw [List.cons_append, gn_more _ _ _ _ _ (h c (by simp))]
      obtain ⟨u', hu⟩ := ih n (i + 1) (u + c.toNat % 128 * 128 ^ i) (fun c hc => h c (by simp [hc])) (by simpa using hl)
      refine ⟨u', ?_⟩
      rw [hu, List.length_cons]
      congr 1 <;> omega
/-- all bytes but the last say that more come; the last does not -/
theorem vb_init (n z : Nat) (hz : z < 128 ^ (n + 1)) : ∃ (l : List UInt8) (c : UInt8), vb n z = l ++ [c] ∧ (∀ d ∈ l, 128 ≤ d.toNat) ∧ c.toNat < 128 ∧ (l ≠ [] → 0 < c.toNat) := by
  induction n generalizing z with
  | zero =>
    have : z < 128 := by simpa using hz
    exact ⟨[], UInt8.ofNat z, rfl, by simp, by rw [toNat_ofNat_small _ (by omega)]; exact this, fun h => absurd rfl h⟩
  | succ n ih =>
    by_cases h : z < 128
    · exact ⟨[], UInt8.ofNat z, by rw [vb_small _ _ h]; rfl, by simp, by rw [toNat_ofNat_small _ (by omega)]; exact h, fun h => absurd rfl h⟩
    · obtain ⟨l, c, hv, hl, hc, hc0⟩ := ih (z / 128) (vb_next _ _ hz)
      refine ⟨UInt8.ofNat (z % 128 + 128) :: l, c, by rw [vb_more _ _ h, hv]; rfl, ?_, hc, fun _ => ?_⟩
      · intro d hd
        rcases List.mem_cons.1 hd with rfl | hd
        · rw [toNat_ofNat_small _ (by omega)]; omega
        · exact hl d hd
      · cases l with
        | cons d l => exact hc0 (by simp)
        | nil =>
          have hs : vb n (z / 128) = [c] := by simpa using hv
          by_cases h2 : z / 128 < 128
          · rw [vb_small _ _ h2] at hs
            injection hs with hs _
            rw [← hs, toNat_ofNat_small _ (by omega)]; omega
          · cases n with
            | zero => exact absurd (by have := vb_next _ _ hz; simpa using this) h2
            | succ n =>
              rw [vb_more _ _ h2] at hs
              have := vb_pos n (z / 128 / 128)
              have hl := congrArg List.length hs
              rw [List.length_cons, List.length_cons, List.length_nil] at hl
              omega
theorem put_init (x : Int) (h : isNum x = true) : ∃ (l : List UInt8) (c : UInt8), putL x = l ++ [c] ∧ (∀ d ∈ l, 128 ≤ d.toNat) ∧ c.toNat < 128 ∧ l.length ≤ 7 := by
  have hz := zig_lt x h
  obtain ⟨l, c, hv, hl, hc, _⟩ := vb_init 9 (zig x) (by simp; omega)
  have hlen := putL_len x
  unfold putL at hlen ⊢
  rw [if_pos h] at hlen ⊢
  rw [hv] at hlen ⊢
  exact ⟨l, c, rfl, hl, hc, by simp at hlen; omega⟩
/-- a number that is cut -/
theorem gn_cut (x : Int) (h : isNum x = true) (k : Nat) (hk : k < (putL x).length) : gn 8 0 0 ((putL x).take k) = .inl 200 := by
  obtain ⟨l, c, hv, hl, hc, hlen⟩ := put_init x h
  rw [hv] at hk ⊢
  rw [List.length_append] at hk
  have hk' : k ≤ l.length := by simpa using Nat.lt_succ_iff.1 hk
  rw [List.take_append_of_le_length hk']
  obtain ⟨u', hu⟩ := gn_big (l.take k) [] 8 0 0 (fun c hc => hl c (List.mem_of_mem_take hc)) (by rw [List.length_take]; omega)
  rw [List.append_nil] at hu
  rw [hu, List.length_take, Nat.min_eq_left hk', show 8 - k = (7 - k) + 1 from by omega, gn_nil]
/-- a number made one byte longer -/
theorem gn_longer (l : List UInt8) (c : UInt8) (hl : ∀ d ∈ l, 128 ≤ d.toNat) (hlen : l.length ≤ 7) (d : UInt8) (hd : 128 ≤ d.toNat) : gn 8 0 0 (l ++ [d, 0]) = .inl 201 := by
  have e : l ++ [d, 0] = (l ++ [d]) ++ [0] := by simp
  rw [e]
  obtain ⟨u', hu⟩ := gn_big (l ++ [d]) [0] 8 0 0 (fun c hc => by
    rcases List.mem_append.1 hc with h | h
    · exact hl c h
    · have : c = d := by simpa using h
      rw [this]; exact hd) (by simp; omega)
  rw [hu, List.length_append]
  simp only [List.length_cons, List.length_nil]
  by_cases h7 : l.length = 7
  · rw [h7, gn_zero]
  · rw [show 8 - (l.length + (0 + 1)) = (6 - l.length) + 1 from by omega, gn_long _ _ _ _ _ rfl (by omega)]

theorem getN_at (pre l : List UInt8) : getN (pre ++ l) (pre.length : Int) = match gn 8 0 0 l with | .inl e => (0, 0, e) | .inr (x, k) => (x, (pre.length : Int) + (k : Int), 0) := by
  unfold getN
  rw [if_neg (by rw [List.length_append]; omega), Int.toNat_natCast, List.drop_left]
  all_goals rfl
theorem getN_put (pre post : List UInt8) (x : Int) (h : isNum x = true) : getN (pre ++ (putL x ++ post)) (pre.length : Int) = (x, (pre.length : Int) + ((putL x).length : Int), 0) := by
  rw [getN_at, gn_put x h]
theorem getN_zero (l : List UInt8) : getN l 0 = match gn 8 0 0 l with | .inl e => (0, 0, e) | .inr (x, k) => (x, (k : Int), 0) := by
  have := getN_at [] l
  simp only [List.nil_append, List.length_nil] at this
  rw [show ((0 : Nat) : Int) = 0 from rfl] at this
  rw [this]
  cases gn 8 0 0 l with
  | inl e => rfl
  | inr p => obtain ⟨x, k⟩ := p; simp
theorem putB_list (x : Int) : (putB x).data.toList = putL x := by unfold putB; simp
theorem append_list (a b : ByteArray) : (a ++ b).data.toList = a.data.toList ++ b.data.toList := by simp
theorem len_list (a : ByteArray) : a.data.toList.length = a.size := by simp
theorem ext_list {a b : ByteArray} (h : a.data.toList = b.data.toList) : a = b := by
  apply ByteArray.ext
  exact Array.toList_inj.1 h
theorem isNum_len (n : Nat) (h : n ≤ 9007199254740992) : isNum (n : Int) = true := by rw [isNum_iff]; omega
/-- a text, there and back -/
theorem getT_text (a t b : ByteArray) (ht : t.size ≤ 9007199254740992) : getT (a ++ textB t ++ b) (a.size : Int) (t.size : Int) = (t, (a.size : Int) + ((textB t).size : Int), 0) := by
  have hn := isNum_len t.size ht
  have hl : (a ++ textB t ++ b).data.toList = a.data.toList ++ (putL (t.size : Int) ++ (t.data.toList ++ b.data.toList)) := by
    unfold textB; rw [append_list, append_list, append_list, putB_list]; simp
  have hg : getN (a ++ textB t ++ b).data.toList (a.size : Int) = ((t.size : Int), (a.size : Int) + ((putL (t.size : Int)).length : Int), 0) := by
    rw [hl, ← len_list a]; exact getN_put _ _ _ hn
  have hts : (textB t).size = (putL (t.size : Int)).length + t.size := by unfold textB; rw [ByteArray.size_append, putB_size]
  have hsz : (a ++ textB t ++ b).size = a.size + ((putL (t.size : Int)).length + t.size) + b.size := by rw [ByteArray.size_append, ByteArray.size_append, hts]
  unfold getT
  rw [hg]
  simp only [ne_eq, not_true_eq_false, if_false]
  rw [if_neg (by omega), if_neg (by rw [hsz]; omega)]
  have e1 : ((a.size : Int) + ((putL (t.size : Int)).length : Int)).toNat = a.size + (putL (t.size : Int)).length := by omega
  have e2 : ((a.size : Int) + ((putL (t.size : Int)).length : Int) + (t.size : Int)).toNat = a.size + (putL (t.size : Int)).length + t.size := by omega
  rw [e1, e2, hts]
  refine Prod.ext ?_ (Prod.ext ?_ rfl)
  · apply ext_list
    rw [Lib.extract_data, hl]
    rw [show a.data.toList ++ (putL (t.size : Int) ++ (t.data.toList ++ b.data.toList)) = (a.data.toList ++ putL (t.size : Int)) ++ (t.data.toList ++ b.data.toList) from by simp]
    rw [List.drop_left' (by rw [List.length_append, len_list]), show a.size + (putL (t.size : Int)).length + t.size - (a.size + (putL (t.size : Int)).length) = t.size from by omega, ← len_list t, List.take_left]
  · show (a.size : Int) + ((putL (t.size : Int)).length : Int) + (t.size : Int) = (a.size : Int) + (((putL (t.size : Int)).length + t.size : Nat) : Int)
    omega
/-- a text that is longer than asked -/
theorem getT_long (t : ByteArray) (ht : t.size ≤ 9007199254740992) (most : Int) (hm : most < (t.size : Int)) : (getT (textB t) 0 most).2.2 = 202 := by
  have hn := isNum_len t.size ht
  have hg : getN (textB t).data.toList 0 = ((t.size : Int), ((putL (t.size : Int)).length : Int), 0) := by
    unfold textB; rw [append_list, putB_list, getN_zero, gn_put _ hn]
  unfold getT
  rw [hg]
  simp only [ne_eq, not_true_eq_false, if_false]
  rw [if_pos (.inr hm)]
/-- a text that is cut -/
theorem getT_cut (t : ByteArray) (ht : t.size ≤ 9007199254740992) (k : Nat) (hk : k < (textB t).size) : (getT ((textB t).extract 0 k) 0 (t.size : Int)).2.2 = 200 := by
  have hn := isNum_len t.size ht
  have hts : (textB t).size = (putL (t.size : Int)).length + t.size := by unfold textB; rw [ByteArray.size_append, putB_size]
  have hl : ((textB t).extract 0 k).data.toList = (putL (t.size : Int) ++ t.data.toList).take k := by
    rw [Lib.extract_data]; unfold textB; rw [append_list, putB_list]; simp
  by_cases h1 : k < (putL (t.size : Int)).length
  · have hg : getN ((textB t).extract 0 k).data.toList 0 = (0, 0, 200) := by
      rw [hl, List.take_append_of_le_length (by omega), getN_zero, gn_cut _ hn _ h1]
    unfold getT
    rw [hg]
    rfl
  · have hg : getN ((textB t).extract 0 k).data.toList 0 = ((t.size : Int), ((putL (t.size : Int)).length : Int), 0) := by
      rw [hl, List.take_append, List.take_of_length_le (by omega), getN_zero, gn_put _ hn]
    have hsz : ((textB t).extract 0 k).size = k := by rw [ByteArray.size_extract]; omega
    unfold getT
    rw [hg]
    simp only [ne_eq, not_true_eq_false, if_false]
    rw [if_neg (by omega), hsz, if_pos (by omega)]
end Go.Proofs.YtmnigoibbcigdaaGreat.Wr
/- Points in plain words: which may be, how they are written and read (chapter 3). -/
namespace Go.Proofs.YtmnigoibbcigdaaGreat.Pt
open Go.Proofs.YtmnigoibbcigdaaGreat

abbrev Point := ByteArray × Int × Int
def nameC (c : UInt8) : Bool := (decide (97 ≤ c.toNat) && decide (c.toNat ≤ 122)) || (decide (48 ≤ c.toNat) && decide (c.toNat ≤ 57)) || decide (c.toNat = 95)
def nameB (s : ByteArray) : Bool := decide (1 ≤ s.size) && decide (s.size ≤ 12) && s.data.toList.all nameC
def smallB (x : Int) : Bool := decide (-2147483648 ≤ x) && decide (x ≤ 2147483647)
def mayB (p : Point) : Bool := nameB p.1 && smallB p.2.1 && smallB p.2.2
def batchB (ps : List Point) : Bool := decide (ps.length ≤ 8) && ps.all mayB
theorem smallB_iff (x : Int) : smallB x = true ↔ -2147483648 ≤ x ∧ x ≤ 2147483647 := by simp [smallB]
theorem smallB_false (x : Int) : smallB x = false ↔ ¬ (-2147483648 ≤ x ∧ x ≤ 2147483647) := by
  rw [← smallB_iff]; simp

/-- one point's bytes -/
def oneL (p : Point) : List UInt8 := (Wr.textB p.1).data.toList ++ Wr.putL p.2.1 ++ Wr.putL p.2.2
def ptsL (ps : List Point) : List UInt8 := Wr.putL (ps.length : Int) ++ ps.flatMap oneL
def ptsB (ps : List Point) : ByteArray := ⟨(ptsL ps).toArray⟩

/-- a reader's state: the place, and whether something was none -/
abbrev St := Int × Bool
def rdNum (s : ByteArray) (lo hi : Int) (r : St) : Int × St :=
  if (Wr.getN s.data.toList r.1).2.2 ≠ 0 ∨ (Wr.getN s.data.toList r.1).1 < lo ∨ hi < (Wr.getN s.data.toList r.1).1 ∨ r.2 = true then (0, (r.1, true))
  else ((Wr.getN s.data.toList r.1).1, ((Wr.getN s.data.toList r.1).2.1, false))
def rdText (s : ByteArray) (most : Int) (r : St) : ByteArray × St :=
  if (Wr.getT s r.1 most).2.2 ≠ 0 ∨ r.2 = true then (⟨#[]⟩, (r.1, true))
  else ((Wr.getT s r.1 most).1, ((Wr.getT s r.1 most).2.1, false))
def rdPt (s : ByteArray) (r : St) : Point × St :=
  let a := rdText s 12 r
  let t := rdNum s (-2147483648) 2147483647 a.2
  let v := rdNum s (-2147483648) 2147483647 t.2
  ((a.1, t.1, v.1), (v.2.1, v.2.2 || !mayB (a.1, t.1, v.1)))
def rdPts (s : ByteArray) : Nat → St → List Point × St
  | 0, r => ([], r)
  | n + 1, r => ((rdPt s r).1 :: (rdPts s n (rdPt s r).2).1, (rdPts s n (rdPt s r).2).2)
/-- what Read answers -/
def readPts (s : ByteArray) (r : St) : List Point × St :=
  let k := rdNum s 0 8 r
  let q := rdPts s k.1.toNat k.2
  (if q.2.2 then [] else q.1, q.2)
/-- what Get answers -/
def getPts (s : ByteArray) (at_ : Int) : List Point × Int × Int :=
  if (readPts s (at_, false)).2.2 then ([], 0, 300) else ((readPts s (at_, false)).1, (readPts s (at_, false)).2.1, 0)

theorem rdNum_bad (s : ByteArray) (lo hi a : Int) : rdNum s lo hi (a, true) = (0, (a, true)) := by simp [rdNum]
theorem rdText_bad (s : ByteArray) (most a : Int) : rdText s most (a, true) = (⟨#[]⟩, (a, true)) := by simp [rdText]
theorem rdPt_bad (s : ByteArray) (a : Int) : (rdPt s (a, true)).2 = (a, true) := by simp [rdPt, rdText_bad, rdNum_bad]
theorem rdPts_bad (s : ByteArray) (n : Nat) (a : Int) : (rdPts s n (a, true)).2 = (a, true) := by
  induction n with
  | zero => rfl
  | succ n ih => simp only [rdPts, rdPt_bad]; exact ih
theorem rdPts_bad' (s : ByteArray) (n : Nat) (r : St) (h : r.2 = true) : (rdPts s n r).2.2 = true := by
  obtain ⟨a, b⟩ := r
  obtain rfl : b = true := h
  rw [rdPts_bad]
theorem rdPts_length (s : ByteArray) (n : Nat) (r : St) : (rdPts s n r).1.length = n := by
  induction n generalizing r with
  | zero => rfl
  | succ n ih => simp only [rdPts, List.length_cons, ih]
/-- the places stay within the text -/
theorem rdNum_at (s : ByteArray) (lo hi : Int) (r : St) (h : r.1 ≤ 9223372036854775807) (h0 : -9223372036854775808 ≤ r.1) (hs : s.size ≤ 9223372036854775807) : -9223372036854775808 ≤ (rdNum s lo hi r).2.1 ∧ (rdNum s lo hi r).2.1 ≤ 9223372036854775807 := by
  unfold rdNum
  split
  · exact ⟨h0, h⟩
  · rename_i hc
    rcases Wr.getN_cases s.data.toList r.1 with ⟨e, hg, he⟩ | ⟨x, a, k, ha, hg, _, _, hle, _⟩
    · rw [hg] at hc; exact absurd (.inl (by rcases he with rfl | rfl <;> decide)) hc
    · rw [Wr.len_list] at hle
      rw [hg]; exact ⟨by simp; omega, by simp; omega⟩
theorem getT_at (s : ByteArray) (at_ most : Int) : 0 ≤ (Wr.getT s at_ most).2.1 ∧ (Wr.getT s at_ most).2.1 ≤ (s.size : Int) ∧ (Wr.getT s at_ most).1.size ≤ s.size := by
  unfold Wr.getT
  split
  · exact ⟨by simp, by simp, Nat.zero_le _⟩
  · rename_i h0
    rcases Wr.getN_cases s.data.toList at_ with ⟨e, hg, he⟩ | ⟨x, a, k, ha, hg, _, _, hle, _⟩
    · rw [hg] at h0; exact absurd (by rcases he with rfl | rfl <;> decide) h0
    · rw [Wr.len_list] at hle
      rw [hg]
      split
      · exact ⟨by simp, by simp, Nat.zero_le _⟩
      · rename_i h1
        split
        · exact ⟨by simp, by simp, Nat.zero_le _⟩
        · rename_i h2
          simp only at h1 h2 ⊢
          refine ⟨by omega, by omega, ?_⟩
          rw [ByteArray.size_extract]; omega
theorem rdText_at (s : ByteArray) (most : Int) (r : St) (h : r.1 ≤ 9223372036854775807) (h0 : -9223372036854775808 ≤ r.1) (hs : s.size ≤ 9223372036854775807) : -9223372036854775808 ≤ (rdText s most r).2.1 ∧ (rdText s most r).2.1 ≤ 9223372036854775807 := by
  have := getT_at s r.1 most
  unfold rdText
  split
  · exact ⟨h0, h⟩
  · exact ⟨by simp; omega, by simp; omega⟩
theorem rdPt_at (s : ByteArray) (r : St) (h : -9223372036854775808 ≤ r.1 ∧ r.1 ≤ 9223372036854775807) (hs : s.size ≤ 9223372036854775807) : -9223372036854775808 ≤ (rdPt s r).2.1 ∧ (rdPt s r).2.1 ≤ 9223372036854775807 := by
  have h1 := rdText_at s 12 r h.2 h.1 hs
  have h2 := rdNum_at s (-2147483648) 2147483647 _ h1.2 h1.1 hs
  have h3 := rdNum_at s (-2147483648) 2147483647 _ h2.2 h2.1 hs
  exact h3
theorem rdNum_range (s : ByteArray) (lo hi : Int) (r : St) (h : lo ≤ 0) (h' : 0 ≤ hi) : lo ≤ (rdNum s lo hi r).1 ∧ (rdNum s lo hi r).1 ≤ hi := by
  unfold rdNum
  split
  · exact ⟨h, h'⟩
  · rename_i hc
    simp only [not_or, Int.not_lt] at hc
    exact ⟨hc.2.1, hc.2.2.1⟩
theorem rdText_size (s : ByteArray) (r : St) : (rdText s 12 r).1.size ≤ 12 := by
  unfold rdText
  split
  · exact Nat.zero_le _
  · rename_i hc
    simp only [not_or, Decidable.not_not] at hc
    unfold Wr.getT at hc ⊢
    split
    · exact Nat.zero_le _
    · split
      · exact Nat.zero_le _
      · split
        · exact Nat.zero_le _
        · rename_i h1 h2 h3
          simp only [ByteArray.size_extract]
          simp only [not_or, Int.not_lt] at h2
          omega
end Go.Proofs.YtmnigoibbcigdaaGreat.Pt
