/- Ev: a run in parts, joined: what one part leaves is named anew and taken up by the next. -/
import Derived.Test.YtcchekmejnhlmaaGreatKEvGc
namespace Go.Proofs.YtcchekmejnhlmaaGreat
namespace Ev
open Go.RowKit
noncomputable section
set_option linter.unusedVariables false

/-- code that runs from a heap of numbers below n to one of numbers below n' -/
def Rq (P : Program) (nt : Nat) (W : List Nat) (c : Code) (t : T8 V) (H : HT) (n : Nat) (ex : Ex) (t' : T8 V) (H' : HT) (n' : Nat) : Prop :=
  ∀ G a w, R G (hp H) w → RegOk ⟨nt, W, []⟩ G ⟨t, []⟩ a → a.tmps.size = nt → (∀ j, n ≤ j → G j = none) → ∀ Q : Exit → Act → World → Prop,
    (∀ G' a' w', R G' (hp H') w' → Fr (Foot G (hp H)) w w' → (∀ b, Foot G' (hp H') b → Foot G (hp H) b ∨ w.heap.size ≤ b) → RegOk ⟨nt, W, []⟩ G' ⟨t', []⟩ a' → a'.tmps.size = nt → a'.defers = a.defers → (∀ j, n' ≤ j → G' j = none) → Q (exOf ex) a' w') → c.wp P Q a w
/-- the same of code that was made -/
def RqK (P : Program) (nt : Nat) (W : List Nat) (k : K) (t : T8 V) (H : HT) (n : Nat) (ex : Ex) (t' : T8 V) (H' : HT) (n' : Nat) : Prop :=
  ∀ c, comp P nt W c = k → Rq P nt W c t H n ex t' H' n'
section
variable {P : Program} {nt : Nat} {W : List Nat} {call : CallT} {H H1 H' : HT} {n n1 n' : Nat} {t t1 t' : T8 V} {ex : Ex}
theorem rq_runs {c : Code} (h : Runs P nt W c t H n ex t' H' n') : Rq P nt W c t H n ex t' H' n' := by
  intro G a w hR hr hn hg Q hQ
  refine h.2 G a w hR hr hn (fun j h1 _ => hg j h1) Q fun G' a' w' s r m d => hQ G' a' w' s.r s.fr s.ft r m d fun j hj => ?_
  rw [s.ext.2 j (.inr hj)]
  exact hg j (Nat.le_trans h.1 hj)
theorem rq_gc {c : Code} {l : List Nat} (h : Rq P nt W c t H n ex t1 H1 n1) (hg : gc l t1 H1 = some (t', H')) : Rq P nt W c t H n ex t' H' l.length := by
  intro G a w hR hr hn hg0 Q hQ
  refine h G a w hR hr hn hg0 Q fun G' a' w' r f ft rg m d g => ?_
  obtain ⟨k1, k2, k3, k4⟩ := gc_ok hg r rg
  exact hQ _ a' w' k1 f (fun b hb => ft b (k4 b hb)) k2 m d k3
theorem rqK_run (hm : P.follows .mixedOrders = true) (hcall : CallOk P call) (hlen : W.length ≤ 64) (hnd : W.Nodup) {k : K} (h : runK call k t H n = .ok ex t' H' n') : RqK P nt W k t H n ex t' H' n' := by
  intro c hc
  subst hc
  rw [runK_comp] at h
  exact rq_runs (run_ok hm hcall (drawn_ok hcall) hlen hnd c _ _ _ _ _ _ _ h)
theorem rqK_gc {k : K} {l : List Nat} (h : RqK P nt W k t H n ex t1 H1 n1) (hg : gc l t1 H1 = some (t', H')) : RqK P nt W k t H n ex t' H' l.length :=
  fun c hc => rq_gc (h c hc) hg
theorem kReg_shape (x : Option CR) : (∃ l, kReg x = .s l) ∨ (∃ l, kReg x = .d l) ∨ kReg x = .no := by
  cases x with
  | none => exact .inr (.inr rfl)
  | some y => cases y with
    | s l => exact .inl ⟨l, rfl⟩
    | d l => exact .inr (.inl ⟨l, rfl⟩)
theorem kCond_shape (x : Option Od) (a b : K) : (∃ o, kCond x a b = .cond o a b) ∨ kCond x a b = .no := by
  cases x with
  | none => exact .inr rfl
  | some o => exact .inl ⟨o, rfl⟩
theorem rq_scope {x : Code} (h : Rq P nt W x t H n ex t' H' n') : Rq P nt W (.scope x) t H n ex t' H' n' := by
  intro G a w hR hr hn hg Q hQ
  refine wp_scope_straight (h G a w hR hr hn hg _ fun G' a' w' r f ft rg m d g => ?_)
  have := hQ G' a' w' r f ft rg m d g
  cases ex <;> exact this
theorem rq_seq {x y : Code} (h : Rq P nt W x t H n .nx t1 H1 n1) (k : Rq P nt W y t1 H1 n1 ex t' H' n') : Rq P nt W (.seq x y) t H n ex t' H' n' := by
  intro G a w hR hr hn hg Q hQ
  refine wp_seq (h G a w hR hr hn hg _ fun G1 a1 w1 r1 f1 ft1 rg1 m1 d1 g1 => ?_)
  refine k G1 a1 w1 r1 rg1 m1 g1 Q fun G2 a2 w2 r2 f2 ft2 rg2 m2 d2 g2 => hQ G2 a2 w2 r2 ?_ (fun b hb => ?_) rg2 m2 (d2.trans d1) g2
  · exact f1.trans f2 fun j hj hs => (ft1 j hs).resolve_right (by omega)
  · rcases ft2 b hb with q | q
    · exact ft1 b q
    · exact .inr (Nat.le_trans f1.size q)
theorem rqK_seq {a b : K} (h : RqK P nt W a t H n .nx t1 H1 n1) (k : RqK P nt W b t1 H1 n1 ex t' H' n') : RqK P nt W (.seq a b) t H n ex t' H' n' := by
  intro c
  induction c with
  | seq x y _ _ =>
    intro hc
    have hc : K.seq (comp P nt W x) (comp P nt W y) = .seq a b := hc
    cases hc
    exact rq_seq (h x rfl) (k y rfl)
  | scope x ih => intro hc; exact rq_scope (ih hc)
  | region id ops draw =>
    intro hc
    have hc : kReg (cReg P nt W ops draw) = .seq a b := hc
    rcases kReg_shape (cReg P nt W ops draw) with ⟨_, q⟩ | ⟨_, q⟩ | q <;> rw [q] at hc <;> cases hc
  | cond c x y _ _ =>
    intro hc
    have hc : kCond (cOd ⟨nt, W, []⟩ c) (comp P nt W x) (comp P nt W y) = .seq a b := hc
    rcases kCond_shape (cOd ⟨nt, W, []⟩ c) (comp P nt W x) (comp P nt W y) with ⟨_, q⟩ | q <;> rw [q] at hc <;> cases hc
  | _ => intro hc; cases hc
/-- a loop, round by round -/
def Rounds (P : Program) (nt : Nat) (W : List Nat) (k : K) (ex : Ex) (t' : T8 V) (H' : HT) (n' : Nat) : Nat → T8 V → HT → Nat → Prop
  | 0, _, _, _ => False
  | j + 1, t, H, n => (∃ t1 H1 n1, RqK P nt W k t H n .nx t1 H1 n1 ∧ Rounds P nt W k ex t' H' n' j t1 H1 n1) ∨ (ex ≠ .nx ∧ RqK P nt W k t H n ex t' H' n')
theorem rq_loop {x : Code} {k : K} (hk : comp P nt W x = k) {m : Nat} (h : Rounds P nt W k ex t' H' n' m t H n) : Rq P nt W (.loop x) t H n ex t' H' n' := by
  intro G a w hR hr hn hg Q hQ
  refine wp_loop_n (fun j a1 w1 => ∃ t1 H1 n1 G1, Rounds P nt W k ex t' H' n' j t1 H1 n1 ∧ R G1 (hp H1) w1 ∧ Fr (Foot G (hp H)) w w1 ∧ (∀ b, Foot G1 (hp H1) b → Foot G (hp H) b ∨ w.heap.size ≤ b) ∧ RegOk ⟨nt, W, []⟩ G1 ⟨t1, []⟩ a1 ∧ a1.tmps.size = nt ∧ a1.defers = a.defers ∧ (∀ j, n1 ≤ j → G1 j = none)) ?_ ?_ (j := m) ⟨t, H, n, G, h, hR, Fr.refl _ _, fun _ => .inl, hr, hn, rfl, hg⟩
  · rintro a1 w1 ⟨t1, H1, n1, G1, h1, _⟩
    exact h1
  · rintro j a1 w1 ⟨t1, H1, n1, G1, h1, r1, f1, ft1, rg1, m1, d1, g1⟩
    have tr : ∀ {G2 : Gh} {H2 : HT} {w2 : World}, Fr (Foot G1 (hp H1)) w1 w2 → (∀ b, Foot G2 (hp H2) b → Foot G1 (hp H1) b ∨ w1.heap.size ≤ b) → Fr (Foot G (hp H)) w w2 ∧ ∀ b, Foot G2 (hp H2) b → Foot G (hp H) b ∨ w.heap.size ≤ b := fun f2 ft2 =>
      ⟨f1.trans f2 fun j hj hs => (ft1 j hs).resolve_right (by omega), fun b hb => by
        rcases ft2 b hb with q | q
        · exact ft1 b q
        · exact .inr (Nat.le_trans f1.size q)⟩
    rcases h1 with ⟨t2, H2, n2, h2, h3⟩ | ⟨h2, h3⟩
    · refine h2 x hk G1 a1 w1 r1 rg1 m1 g1 _ fun G2 a2 w2 r2 f2 ft2 rg2 m2 d2 g2 => ?_
      obtain ⟨q1, q2⟩ := tr f2 ft2
      exact ⟨t2, H2, n2, G2, h3, r2, q1, q2, rg2, m2, d2.trans d1, g2⟩
    · refine h3 x hk G1 a1 w1 r1 rg1 m1 g1 _ fun G2 a2 w2 r2 f2 ft2 rg2 m2 d2 g2 => ?_
      obtain ⟨q1, q2⟩ := tr f2 ft2
      have := hQ G2 a2 w2 r2 q1 q2 rg2 m2 (d2.trans d1) g2
      cases ex with
      | nx => exact absurd rfl h2
      | ex id => exact this
      | rt => exact this
theorem rqK_loop {k : K} {m : Nat} (h : Rounds P nt W k ex t' H' n' m t H n) : RqK P nt W (.loop k) t H n ex t' H' n' := by
  intro c
  induction c with
  | loop x _ =>
    intro hc
    have hc : K.loop (comp P nt W x) = .loop k := hc
    cases hc
    exact rq_loop rfl h
  | scope x ih => intro hc; exact rq_scope (ih hc)
  | region id ops draw =>
    intro hc
    have hc : kReg (cReg P nt W ops draw) = .loop k := hc
    rcases kReg_shape (cReg P nt W ops draw) with ⟨_, q⟩ | ⟨_, q⟩ | q <;> rw [q] at hc <;> cases hc
  | cond c x y _ _ =>
    intro hc
    have hc : kCond (cOd ⟨nt, W, []⟩ c) (comp P nt W x) (comp P nt W y) = .loop k := hc
    rcases kCond_shape (cOd ⟨nt, W, []⟩ c) (comp P nt W x) (comp P nt W y) with ⟨_, q⟩ | q <;> rw [q] at hc <;> cases hc
  | _ => intro hc; cases hc
/-- a block: who leaves by its number goes on behind it -/
def exB (id : Nat) : Ex → Ex
  | .ex i => cnd (Nat.beq i id) .nx (.ex i)
  | e => e
theorem rqK_blk {id : Nat} {k : K} (h : RqK P nt W k t H n ex t' H' n') : RqK P nt W (.blk id k) t H n (exB id ex) t' H' n' := by
  intro c
  induction c with
  | block i x _ =>
    intro hc
    have hc : K.blk i (comp P nt W x) = .blk id k := hc
    cases hc
    intro G a w hR hr hn hg Q hQ
    refine wp_block (h x rfl G a w hR hr hn hg _ fun G' a' w' r f ft rg m d g => ?_)
    have hq := hQ G' a' w' r f ft rg m d g
    cases ex with
    | nx => exact hq
    | rt => exact hq
    | ex id' =>
      show (if id' = id then Q .normal a' w' else Q (.exit id') a' w')
      have hq : Q (exOf (cnd (Nat.beq id' id) .nx (.ex id'))) a' w' := hq
      cases hb : Nat.beq id' id with
      | true => rw [hb] at hq; rw [if_pos (nbeq_eq hb)]; exact hq
      | false => rw [hb] at hq; rw [if_neg (Nat.ne_of_beq_eq_false hb)]; exact hq
  | scope x ih => intro hc; exact rq_scope (ih hc)
  | region id' ops draw =>
    intro hc
    have hc : kReg (cReg P nt W ops draw) = .blk id k := hc
    rcases kReg_shape (cReg P nt W ops draw) with ⟨_, q⟩ | ⟨_, q⟩ | q <;> rw [q] at hc <;> cases hc
  | cond c x y _ _ =>
    intro hc
    have hc : kCond (cOd ⟨nt, W, []⟩ c) (comp P nt W x) (comp P nt W y) = .blk id k := hc
    rcases kCond_shape (cOd ⟨nt, W, []⟩ c) (comp P nt W x) (comp P nt W y) with ⟨_, q⟩ | q <;> rw [q] at hc <;> cases hc
  | _ => intro hc; cases hc
/-- a row of parts, and what follows -/
def seqs (l : List K) (k : K) : K := List.rec k (fun a _ ih => .seq a ih) l
def runL (call : CallT) (l : List K) : RunT := List.rec (motive := fun _ => RunT) (fun t H n => .ok .nx t H n) (fun a _ ih t H n => seqO ih (runK call a t H n)) l
theorem rqK_list (hm : P.follows .mixedOrders = true) (hcall : CallOk P call) (hlen : W.length ≤ 64) (hnd : W.Nodup) : ∀ {l : List K} {k : K} {t : T8 V} {H : HT} {n : Nat}, runL call l t H n = .ok .nx t1 H1 n1 → ∀ {g : List Nat} {t2 : T8 V} {H2 : HT}, gc g t1 H1 = some (t2, H2) → l ≠ [] → RqK P nt W k t2 H2 g.length ex t' H' n' → RqK P nt W (seqs l k) t H n ex t' H' n'
  | [], k, t, H, n, h, g, t2, H2, hg, hl, hk => absurd rfl hl
  | a :: l, k, t, H, n, h, g, t2, H2, hg, hl, hk => by
    have h : seqO (runL call l) (runK call a t H n) = .ok .nx t1 H1 n1 := h
    rcases seqO_ok h with ⟨ta, Ha, na, h1, h2⟩ | ⟨q, _⟩
    · cases l with
      | nil =>
        have h2 : Ot.ok .nx ta Ha na = .ok .nx t1 H1 n1 := h2
        cases h2
        exact rqK_seq (rqK_gc (rqK_run hm hcall hlen hnd h1) hg) hk
      | cons b l => exact rqK_seq (rqK_run hm hcall hlen hnd h1) (rqK_list hm hcall hlen hnd h2 hg (by simp) hk)
    · exact absurd rfl q
end
/-- a run's end, its heap named anew -/
def gcO (g : List Nat) (r : Ot) : Option (T8 V × HT) := Ot.rec none (fun e t H _ => Ex.rec (gc g t H) (fun _ => none) none e) r
theorem gcO_ok {g : List Nat} {r : Ot} {t' : T8 V} {H' : HT} (h : gcO g r = some (t', H')) : ∃ t H n, r = .ok .nx t H n ∧ gc g t H = some (t', H') := by
  cases r with
  | no => cases h
  | ok e t H n =>
    cases e with
    | nx => exact ⟨t, H, n, rfl, h⟩
    | _ => cases h
/-- what comes back and is true -/
def okR (rs : List RV) (r : Ot) : Bool := okB' (Ot.rec Rs.no (retE rs) r)
 where okB' (r : Rs) : Bool := Rs.rec false (fun v _ _ => V.rec (fun x => Sc.rec false (fun b => b) (fun _ _ => false) (fun _ _ => false) false (fun _ _ => false) false (fun _ _ _ _ _ => false) (fun _ _ _ _ _ => false) false false (fun _ => false) false (fun _ _ => false) false x) (fun _ => false) (fun _ => false) v) r
theorem okR_ok {rs : List RV} {r : Ot} (h : okR rs r = true) : ∃ ex t H n, r = .ok ex t H n ∧ retE rs ex t H n = .ok (.c (.b true)) H n := by
  cases r with
  | no => cases h
  | ok ex t H n =>
    refine ⟨ex, t, H, n, rfl, ?_⟩
    have h : okR.okB' (retE rs ex t H n) = true := h
    have key : ∀ v H' n', retE rs ex t H n = .ok v H' n' → H' = H ∧ n' = n := by
      intro v H' n' q
      have q : (match ex with | .ex _ => Rs.no | _ => retV rs ⟨t, []⟩ H n) = .ok v H' n' := q
      have q : retV rs ⟨t, []⟩ H n = .ok v H' n' := by
        cases ex with
        | ex id => cases q
        | nx => exact q
        | rt => exact q
      unfold retV at q
      split at q
      · split at q
        · cases q; exact ⟨rfl, rfl⟩
        · cases q
      · cases q
    cases hr : retE rs ex t H n with
    | no => rw [hr] at h; cases h
    | ok v H1 n1 =>
      rw [hr] at h
      obtain ⟨rfl, rfl⟩ := key _ _ _ hr
      cases v with
      | c x =>
        cases x with
        | b b =>
          have h : b = true := h
          rw [h]
        | _ => cases h
      | _ => cases h
/-- a function whose body runs so, entered from nothing -/
theorem calls_rq {P : Program} {wt : WT} {fid : Nat} {f : KF} (hf : compF P wt fid = some f) {args : List V} {t0 t' : T8 V} {H' : HT} {ex : Ex} {n' : Nat} {v : V} (ha : Nat.ble args.length f.nt = true) (ht : args0 f.ar args .z = some t0)
    (hq : ∀ nt W, nt = f.nt → W.length ≤ 64 → W.Nodup → RqK P nt W f.body t0 .z 0 ex t' H' n') (hv : retE f.rs ex t' H' n' = .ok v H' n') (w : World) (cargs : Array Value) (hc : All2 (V.ok fun _ => none) args cargs.toList) :
    Calls P fid cargs w fun e w' => ∃ cv G', e = .returned cv ∧ Below w.heap.size w w' ∧ V.ok G' v cv := by
  unfold compF at hf
  split at hf
  · rename_i g hg
    cases hf
    unfold cF at hg
    split at hg
    · rename_i fn hfn
      split at hg
      · rename_i c hc'
        generalize hW : tget 3 [] wt fid = W at hg
        unfold cFb at hg
        split at hg
        · rename_i rs hrs
          cases hw : and (Nat.ble W.length 64) (noDup W) with
          | false => rw [hw] at hg; cases hg
          | true =>
            rw [hw] at hg
            have hg : some _ = some g := hg
            cases hg
            rw [Bool.and_eq_true] at hw
            have hlen : W.length ≤ 64 := Nat.le_of_ble_eq_true hw.1
            have hnd := noDup_ok hw.2
            have ha : args.length ≤ fn.ntmps := Nat.le_of_ble_eq_true ha
            have ht0 : args0 ((List.range (fn.params.size + fn.nfree)).map fun i => ixW i W 0) args .z = some t0 := ht
            rw [List.range_eq_range'] at ht0
            obtain ⟨hal, hrg⟩ := args0_ok hlen hnd _ _ _ _ _ ht0
            have hrun := hq fn.ntmps W rfl hlen hnd c rfl
            have hre : (∀ id, ex ≠ .ex id) ∧ retV rs ⟨t', []⟩ H' n' = .ok v H' n' := by
              have h : retE rs ex t' H' n' = .ok v H' n' := hv
              cases ex with
              | ex id => cases h
              | nx => exact ⟨fun _ q => (by cases q), h⟩
              | rt => exact ⟨fun _ q => (by cases q), h⟩
            refine calls_of_wp hfn hc' ?_
            have hcs : cargs.size = args.length := by rw [← Array.length_toList]; exact hc.length.symm
            have hsz : (cargs ++ Array.replicate (fn.ntmps - cargs.size) undef).size = fn.ntmps := by simp; omega
            refine hrun (fun _ => none) _ w (R_z _ _) ⟨fun j h1 h2 => ?_, fun t o q => by cases q⟩ hsz (fun _ _ => rfl) _ fun G' a' w' r f ft rg m d _ => ?_
            · have h1 : j < W.length := h1
              show V.ok _ (rget ⟨t0, []⟩ j) ((cargs ++ Array.replicate (fn.ntmps - cargs.size) undef).getD W[j] undef)
              rw [getD_app, hrg j h1, ← Array.toArray_toList (xs := cargs), Array.getD_eq_getD_getElem?, List.getElem?_toArray, ← List.getD_eq_getElem?_getD]
              by_cases q : W[j] < args.length
              · rw [if_pos (by omega)]
                exact args_getD hc W[j]
              · rw [if_neg (by omega), List.getD_eq_getElem?_getD, List.getElem?_eq_none, Option.getD_none]
                · rw [show rget ⟨T8.z, []⟩ j = (V.t []) from tget_z _ _ _]; exact V.undef_ok _
                · rw [Array.length_toList]; omega
            · obtain ⟨_, _, cv, q1, q2⟩ := retV_ok (n := n') hrs hre.2 r rg m
              have hb : a'.defers = [] ∧ ∃ v, (results fn a'.tmps).run P w' = .ok v w' ∧ ∃ cv G', Ending.returned v = .returned cv ∧ Below w.heap.size w w' ∧ V.ok G' _ cv := ⟨d, cv, q1, cv, G', rfl, f.below fun _ _ => foot_z, q2⟩
              cases ex with
              | nx => exact hb
              | rt => exact hb
              | ex id => exact absurd rfl (hre.1 id)
        · cases hg
      · cases hg
    · cases hg
  · cases hf
end
end Ev
end Go.Proofs.YtcchekmejnhlmaaGreat
