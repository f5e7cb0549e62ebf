/- A drawn region with three builds and three appends: the steps. -/
import Derived.Test.YthpnhodpfhagaaaSgPut
import Derived.Test.YthpnhodpfhagaaaSgMay
import Derived.Test.YthpnhodpfhagaaaClTexts
import Derived.Deep.RegionHeld3
import Derived.Deep.AppendLies
namespace Go.Proofs.Ythpnhodpfhagaaa
open Go.RowKit
set_option linter.unusedVariables false

section
variable {base : Nat} {vn vt vv : Value} {N : List ByteArray} {T V : List Int} {w w' : World}
theorem Rows3.alloc (h : Rows3 base vn vt vv N T V w) (o : Obj) : Rows3 base vn vt vv N T V (w.alloc o) := ⟨h.n.alloc o, h.t.alloc o, h.v.alloc o, h.ne⟩
theorem Rows3.drew (h : Rows3 base vn vt vv N T V w) : Rows3 base vn vt vv N T V w.drew := ⟨h.n.drew, h.t.drew, h.v.drew, h.ne⟩
theorem Rows3.only (h : Rows3 base vn vt vv N T V w) {S : Nat → Prop} (ho : Only S w w') (hn : ∀ g, vn.ownBlock = some g → ¬ S g) (ht : ∀ g, vt.ownBlock = some g → ¬ S g) (hv : ∀ g, vv.ownBlock = some g → ¬ S g) : Rows3 base vn vt vv N T V w' := ⟨own_only h.n ho hn, own_only h.t ho ht, own_only h.v ho hv, h.ne⟩
theorem news_one {g : Nat} {x : Value} (h : w.cell? ⟨g, 0, none⟩ = some x) : ∀ j u, [x][j]? = some u → w.cell? ((⟨g, 0, none⟩ : Addr).add j) = some u := by
  intro j u hu
  have hj : j = 0 := by
    rcases j with _ | j
    · rfl
    · simp at hu
  subst hj
  rw [add_mk]
  simp at hu
  subst hu
  exact h
theorem cell_new_at (W : World) (g : Nat) (hg : W.heap.size = g) (x : Value) (t : TypeId) : (W.alloc (.cells #[x] t)).cell? ⟨g, 0, none⟩ = some x := by subst hg; exact cell_new W #[x] t 0
variable {ops : Array Oper} {o : Oper} {a : Act} {K : Act → World → Prop} {Q : Exit → Act → World → Prop} {E : Prop}
theorem step_pushN (w : World) (hgd : o.guard = none) (s x : Operand) (ho : o.op = .call { callee := .builtin .append, args := #[s, x], argTypes := #[35, 35] })
    (hR : Rows3 base vn vt vv N T V w) (hs : a.eval s = vn) (g : Nat) (hx : a.eval x = .slice (some ⟨g, 0, none⟩) 1 1) (nm : ByteArray) (hc : w.cell? ⟨g, 0, none⟩ = some (.string nm)) (hn : N.length ≤ 64) (hb : base ≤ w.heap.size)
    (h : ∀ gg cap w', Rows3 base (.slice (some ⟨gg, 0, none⟩) (N.length + 1) cap) vt vv (N ++ [nm]) T V w' → w.grownBy w' vn.ownBlock → K (a.put o.dst (.slice (some ⟨gg, 0, none⟩) (N.length + 1) cap)) w') :
    if Region.wanted o (yielded ops a.tmps) = true then Oper.wp Try.prog o a w K Q else E := by
  obtain ⟨i0, hi, hz0, hz1, hz2⟩ := info_parts info_string
  refine step_append_lies _ hgd s x _ ho base 9 i0 _ 1 16 Try.underlying35 hi hz0 hz1 hz2 rfl (by decide) vn N.length _ hs hR.n ⟨g, 0, none⟩ 1 1 [.string nm] hx rfl (news_one hc) (by simp [Value.oneCell']) (by omega) (by unfold maxLen; omega) (by omega) hb _ rfl ?_
  intro gg cap w' hown hg hat hlt
  exact h gg cap w' (hR.pushN nm hown (Only.of_grown hg (fun k hk _ => hk))) hg
theorem step_pushT (w : World) (hgd : o.guard = none) (s x : Operand) (ho : o.op = .call { callee := .builtin .append, args := #[s, x], argTypes := #[22, 22] })
    (hR : Rows3 base vn vt vv N T V w) (hs : a.eval s = vt) (g : Nat) (hx : a.eval x = .slice (some ⟨g, 0, none⟩) 1 1) (t : Int) (hc : w.cell? ⟨g, 0, none⟩ = some (.int .i64 t)) (hn : T.length ≤ 64) (hb : base ≤ w.heap.size)
    (h : ∀ gg cap w', Rows3 base vn (.slice (some ⟨gg, 0, none⟩) (T.length + 1) cap) vv N (T ++ [t]) V w' → w.grownBy w' vt.ownBlock → K (a.put o.dst (.slice (some ⟨gg, 0, none⟩) (T.length + 1) cap)) w') :
    if Region.wanted o (yielded ops a.tmps) = true then Oper.wp Try.prog o a w K Q else E := by
  obtain ⟨i0, hi, hz0, hz1, hz2⟩ := info_parts info_int
  refine step_append_lies _ hgd s x _ ho base 3 i0 _ 1 8 Try.underlying22 hi hz0 hz1 hz2 rfl (by decide) vt T.length _ hs hR.t ⟨g, 0, none⟩ 1 1 [.int .i64 t] hx rfl (news_one hc) (by simp [Value.oneCell']) (by omega) (by unfold maxLen; omega) (by omega) hb _ rfl ?_
  intro gg cap w' hown hg hat hlt
  refine h gg cap w' (hR.pushT t hown (Only.of_grown hg (fun k hk _ => hk)) ?_) hg
  intro k hk
  have : gg = k := by simpa [Value.ownBlock] using hk
  subst this
  rcases hat with q | q
  · exact .inl q
  · exact .inr (by omega)
theorem step_pushV (w : World) (hgd : o.guard = none) (s x : Operand) (ho : o.op = .call { callee := .builtin .append, args := #[s, x], argTypes := #[22, 22] })
    (hR : Rows3 base vn vt vv N T V w) (hs : a.eval s = vv) (g : Nat) (hx : a.eval x = .slice (some ⟨g, 0, none⟩) 1 1) (t : Int) (hc : w.cell? ⟨g, 0, none⟩ = some (.int .i64 t)) (hn : V.length ≤ 64) (hb : base ≤ w.heap.size)
    (h : ∀ gg cap w', Rows3 base vn vt (.slice (some ⟨gg, 0, none⟩) (V.length + 1) cap) N T (V ++ [t]) w' → w.grownBy w' vv.ownBlock → K (a.put o.dst (.slice (some ⟨gg, 0, none⟩) (V.length + 1) cap)) w') :
    if Region.wanted o (yielded ops a.tmps) = true then Oper.wp Try.prog o a w K Q else E := by
  obtain ⟨i0, hi, hz0, hz1, hz2⟩ := info_parts info_int
  refine step_append_lies _ hgd s x _ ho base 3 i0 _ 1 8 Try.underlying22 hi hz0 hz1 hz2 rfl (by decide) vv V.length _ hs hR.v ⟨g, 0, none⟩ 1 1 [.int .i64 t] hx rfl (news_one hc) (by simp [Value.oneCell']) (by omega) (by unfold maxLen; omega) (by omega) hb _ rfl ?_
  intro gg cap w' hown hg hat hlt
  refine h gg cap w' (hR.pushV t hown (Only.of_grown hg (fun k hk _ => hk)) ?_) hg
  intro k hk
  have : gg = k := by simpa [Value.ownBlock] using hk
  subst this
  rcases hat with q | q
  · exact .inl q
  · exact .inr (by omega)
end
end Go.Proofs.Ythpnhodpfhagaaa
