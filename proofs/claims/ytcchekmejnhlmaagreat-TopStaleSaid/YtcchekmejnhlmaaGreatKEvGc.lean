/- Ev: a run in parts: what lies on the heap is named anew between them, what nothing leads to is left behind. -/
import Derived.Test.YtcchekmejnhlmaaGreatK4
namespace Go.Proofs.YtcchekmejnhlmaaGreat
namespace Ev
open Go.RowKit
noncomputable section
set_option linter.unusedVariables false

/-! ### new numbers for objects -/
def oB {α β : Type} (x : Option α) (f : α → Option β) : Option β := Option.rec none f x
theorem oB_some {α β : Type} {x : Option α} {f : α → Option β} {y : β} (h : oB x f = some y) : ∃ a, x = some a ∧ f a = some y := by
  cases x with
  | none => cases h
  | some a => exact ⟨a, rfl, h⟩
abbrev RnT := T8 Nat
def predO (n : Nat) : Option Nat := Nat.rec none (fun j _ => some j) n
def rnI (τ : RnT) (id : Nat) : Option Nat := cnd (Nat.blt id HB) (predO (tget 5 0 τ id)) none
def rnCaps (τ : RnT) : List (Nat × Nat) → Option (List (Nat × Nat))
  | [] => some []
  | p :: r => oB (rnI τ p.1) fun j => oB (rnCaps τ r) fun l => some ((j, p.2) :: l)
def rnS (τ : RnT) (x : Sc) : Option Sc := Sc.rec (some .u) (fun b => some (.b b)) (fun k n => some (.i k n)) (fun l n => some (.s l n)) (some .pn) (fun id off => oB (rnI τ id) fun j => some (.p j off)) (some .sn)
  (fun id off len cap es => oB (rnI τ id) fun j => some (.sk j off len cap es)) (fun id off len lb es => oB (rnI τ id) fun j => some (.su j off len lb es)) (some .se) (some .mn) (fun id => oB (rnI τ id) fun j => some (.m j)) (some .fn) (fun fid caps => oB (rnCaps τ caps) fun l => some (.f fid l)) (some .ni) x
def rnL (τ : RnT) : List Sc → Option (List Sc)
  | [] => some []
  | x :: r => oB (rnS τ x) fun y => oB (rnL τ r) fun l => some (y :: l)
def rnE (τ : RnT) (e : E) : Option E := E.rec (fun x => oB (rnS τ x) fun y => some (.c y)) (fun xs => oB (rnL τ xs) fun ys => some (.a ys)) e
def rnEs (τ : RnT) : List E → Option (List E)
  | [] => some []
  | x :: r => oB (rnE τ x) fun y => oB (rnEs τ r) fun l => some (y :: l)
def rnV (τ : RnT) (v : V) : Option V := V.rec (fun x => oB (rnS τ x) fun y => some (.c y)) (fun xs => oB (rnL τ xs) fun ys => some (.a ys)) (fun es => oB (rnEs τ es) fun ys => some (.t ys)) v
/-- a tree, leaf by leaf -/
def mapT {α : Type} (f : α → Option α) (t : T8 α) : Option (T8 α) :=
  T8.rec (some .z) (fun x => oB (f x) fun y => some (.l y)) (fun _ _ _ _ _ _ _ _ a b c d e g h i => oB a fun a => oB b fun b => oB c fun c => oB d fun d => oB e fun e => oB g fun g => oB h fun h => oB i fun i => some (.n a b c d e g h i)) t
def rnMp (τ : RnT) : List (Sc × E) → Option (List (Sc × E))
  | [] => some []
  | p :: r => oB (rnS τ p.1) fun x => oB (rnE τ p.2) fun y => oB (rnMp τ r) fun l => some ((x, y) :: l)
def rnO (τ : RnT) (o : Ob) : Option Ob := Ob.rec (some .no) (fun n x dep d t => oB (rnS τ d) fun d => oB (mapT (rnS τ) t) fun t => some (.row n x dep d t)) (fun es => oB (rnMp τ es) fun es => some (.mp es))
  (fun el a buf => oB (rnS τ a) fun a => oB (rnS τ buf) fun buf => some (.bd el a buf)) (fun el len n => some (.by' el len n)) o
/-- the old numbers in their new row: l; where each one stands -/
def mkRn (l : List Nat) : Nat → RnT → RnT := List.rec (motive := fun _ => Nat → RnT → RnT) (fun _ τ => τ) (fun id _ ih j τ => T8.fc (tset 5 τ id (Nat.add j 1)) fun τ => ih (Nat.add j 1) τ) l
def gcH (τ : RnT) (H : HT) (l : List Nat) : Nat → HT → Option HT := List.rec (motive := fun _ => Nat → HT → Option HT) (fun _ K => some K) (fun id _ ih j K => cnd (and (Nat.blt id HB) (and (Nat.blt j HB) (Nat.beq (tget 5 0 τ id) (Nat.add j 1)))) (oB (rnO τ (hget H id)) fun o => T8.fc (hset K j o) fun K => ih (Nat.add j 1) K) none) l
def gcS (l : List Nat) (t : T8 V) (H : HT) (τ : RnT) : Option (T8 V × HT) := oB (mapT (rnV τ) t) fun t => oB (gcH τ H l 0 .z) fun K => some (t, K)
def gc (l : List Nat) (t : T8 V) (H : HT) : Option (T8 V × HT) := T8.fc (mkRn l 0 .z) fun τ => gcS l t H τ
/-! ### what they are good for -/
/-- τ tells where in l a number stands -/
def RnOk (l : List Nat) (τ : RnT) : Prop := ∀ id j, id < HB → tget 5 0 τ id = j + 1 → l[j]? = some id
theorem mkRn_ok : ∀ (l p : List Nat) (τ : RnT), (∀ id ∈ l, id < HB) → RnOk (p ++ l) τ → RnOk (p ++ l) (mkRn l p.length τ)
  | [], p, τ, _, h => h
  | id :: l, p, τ, hl, h => by
    show RnOk (p ++ id :: l) (T8.fc (tset 5 τ id (p.length + 1)) fun τ => mkRn l (p.length + 1) τ)
    rw [T8.fc_eq]
    have hid := hl id (List.mem_cons_self ..)
    have e : p ++ id :: l = (p ++ [id]) ++ l := by simp
    have hp : p.length + 1 = (p ++ [id]).length := by simp
    rw [e, hp]
    refine mkRn_ok l (p ++ [id]) _ (fun i q => hl i (List.mem_cons_of_mem _ q)) fun i j hi hq => ?_
    rw [tget_set (by simpa [HB] using hid) (by simpa [HB] using hi)] at hq
    by_cases c : i = id
    · rw [if_pos c] at hq
      have : j = p.length := by simp at hq; omega
      rw [this, c, ← e]
      simp
    · rw [if_neg c] at hq
      rw [← e]
      exact h i j hi hq
section
variable {l : List Nat} {τ : RnT} {G : Gh}
/-- the ghosts by the new numbers -/
def gcG (l : List Nat) (G : Gh) : Gh := fun j => match l[j]? with | some id => G id | none => none
theorem rnI_ok (h : RnOk l τ) {id j : Nat} (hr : rnI τ id = some j) : gcG l G j = G id := by
  unfold rnI at hr
  obtain ⟨h1, h2⟩ := cond_some hr
  have h3 : tget 5 0 τ id = j + 1 := by
    unfold predO at h2
    cases hq : tget 5 0 τ id with
    | zero => rw [hq] at h2; cases h2
    | succ i =>
      rw [hq] at h2
      have h2 : some i = some j := h2
      cases h2; rfl
  unfold gcG
  rw [h id j (blt_true h1) h3]
theorem rnCaps_ok (h : RnOk l τ) : ∀ {caps r : List (Nat × Nat)} {cs : List Value}, rnCaps τ caps = some r → All2 (fun (p : Nat × Nat) c => ∃ b sz, G p.1 = some (b, sz) ∧ c = Value.pointer (some ⟨b, p.2, none⟩)) caps cs → All2 (fun (p : Nat × Nat) c => ∃ b sz, gcG l G p.1 = some (b, sz) ∧ c = Value.pointer (some ⟨b, p.2, none⟩)) r cs
  | [], _, _, hr, ha => by cases hr; cases ha; exact .nil
  | p :: caps, _, _, hr, ha => by
    obtain ⟨j, h1, hr⟩ := oB_some hr
    obtain ⟨r', h2, hr⟩ := oB_some hr
    cases hr
    cases ha with
    | cons a b =>
      obtain ⟨bb, sz, g1, g2⟩ := a
      exact .cons ⟨bb, sz, by rw [rnI_ok h h1]; exact g1, g2⟩ (rnCaps_ok h h2 b)
theorem rnS_ok (h : RnOk l τ) {x y : Sc} {v : Value} (hr : rnS τ x = some y) (hx : Sc.ok G x v) : Sc.ok (gcG l G) y v := by
  cases x with
  | p id off =>
    obtain ⟨j, h1, hr⟩ := oB_some hr
    cases hr
    obtain ⟨b, sz, g, e⟩ := hx
    exact ⟨b, sz, by rw [rnI_ok h h1]; exact g, e⟩
  | sk id off len cap es =>
    obtain ⟨j, h1, hr⟩ := oB_some hr
    cases hr
    obtain ⟨b, sz, g, e⟩ := hx
    exact ⟨b, sz, by rw [rnI_ok h h1]; exact g, e⟩
  | su id off len lb es =>
    obtain ⟨j, h1, hr⟩ := oB_some hr
    cases hr
    obtain ⟨b, sz, c, g, e⟩ := hx
    exact ⟨b, sz, c, by rw [rnI_ok h h1]; exact g, e⟩
  | m id =>
    obtain ⟨j, h1, hr⟩ := oB_some hr
    cases hr
    obtain ⟨b, sz, g, e⟩ := hx
    exact ⟨b, sz, by rw [rnI_ok h h1]; exact g, e⟩
  | f fid caps =>
    obtain ⟨r, h1, hr⟩ := oB_some hr
    cases hr
    obtain ⟨cs, e, ha⟩ := hx
    exact ⟨cs, e, rnCaps_ok h h1 ha⟩
  | _ => cases hr; exact hx
theorem rnL_ok (h : RnOk l τ) : ∀ {xs ys : List Sc} {vs : List Value}, rnL τ xs = some ys → All2 (Sc.ok G) xs vs → All2 (Sc.ok (gcG l G)) ys vs
  | [], _, _, hr, ha => by cases hr; cases ha; exact .nil
  | x :: xs, _, _, hr, ha => by
    obtain ⟨y, h1, hr⟩ := oB_some hr
    obtain ⟨ys, h2, hr⟩ := oB_some hr
    cases hr
    cases ha with
    | cons a b => exact .cons (rnS_ok h h1 a) (rnL_ok h h2 b)
theorem rnE_ok (h : RnOk l τ) {e f : E} {v : Value} (hr : rnE τ e = some f) (he : E.ok G e v) : E.ok (gcG l G) f v := by
  cases e with
  | c x =>
    obtain ⟨y, h1, hr⟩ := oB_some hr
    cases hr
    exact rnS_ok h h1 he
  | a xs =>
    obtain ⟨ys, h1, hr⟩ := oB_some hr
    cases hr
    obtain ⟨arr, e, ha⟩ := he
    exact ⟨arr, e, rnL_ok h h1 ha⟩
theorem rnEs_ok (h : RnOk l τ) : ∀ {xs ys : List E} {vs : List Value}, rnEs τ xs = some ys → All2 (E.ok G) xs vs → All2 (E.ok (gcG l G)) ys vs
  | [], _, _, hr, ha => by cases hr; cases ha; exact .nil
  | x :: xs, _, _, hr, ha => by
    obtain ⟨y, h1, hr⟩ := oB_some hr
    obtain ⟨ys, h2, hr⟩ := oB_some hr
    cases hr
    cases ha with
    | cons a b => exact .cons (rnE_ok h h1 a) (rnEs_ok h h2 b)
theorem rnV_ok (h : RnOk l τ) {u v : V} {c : Value} (hr : rnV τ u = some v) (hu : V.ok G u c) : V.ok (gcG l G) v c := by
  cases u with
  | c x =>
    obtain ⟨y, h1, hr⟩ := oB_some hr
    cases hr
    exact rnS_ok h h1 hu
  | a xs =>
    obtain ⟨ys, h1, hr⟩ := oB_some hr
    cases hr
    obtain ⟨arr, e, ha⟩ := hu
    exact ⟨arr, e, rnL_ok h h1 ha⟩
  | t es =>
    obtain ⟨ys, h1, hr⟩ := oB_some hr
    cases hr
    obtain ⟨arr, e, ha⟩ := hu
    exact ⟨arr, e, rnEs_ok h h1 ha⟩
end
theorem mapT_get {α : Type} {f : α → Option α} {z z' : α} (hz : f z = some z') : ∀ (p : List D8) {t t' : T8 α}, mapT f t = some t' → f (T8.get z p t) = some (T8.get z' p t')
  | [], .z, t', h => by cases h; exact hz
  | [], .l x, t', h => by
    obtain ⟨y, h1, h⟩ := oB_some h
    cases h; exact h1
  | [], .n a b c d e g i j, t', h => by
    obtain ⟨_, _, h⟩ := oB_some h
    obtain ⟨_, _, h⟩ := oB_some h
    obtain ⟨_, _, h⟩ := oB_some h
    obtain ⟨_, _, h⟩ := oB_some h
    obtain ⟨_, _, h⟩ := oB_some h
    obtain ⟨_, _, h⟩ := oB_some h
    obtain ⟨_, _, h⟩ := oB_some h
    obtain ⟨_, _, h⟩ := oB_some h
    cases h; exact hz
  | dd :: p, .z, t', h => by
    cases h
    show f (T8.get z p (T8.ch dd .z)) = some (T8.get z' p (T8.ch dd .z))
    have e : T8.ch dd (.z : T8 α) = .z := by cases dd <;> rfl
    rw [e]; exact mapT_get hz p rfl
  | dd :: p, .l x, t', h => by
    obtain ⟨y, h1, h⟩ := oB_some h
    cases h
    show f (T8.get z p (T8.ch dd (.l x))) = some (T8.get z' p (T8.ch dd (.l y)))
    have e : ∀ x : α, T8.ch dd (.l x) = .z := fun x => by cases dd <;> rfl
    rw [e, e]; exact mapT_get hz p rfl
  | dd :: p, .n a b c d e g i j, t', h => by
    obtain ⟨a', ha, h⟩ := oB_some h
    obtain ⟨b', hb, h⟩ := oB_some h
    obtain ⟨c', hc, h⟩ := oB_some h
    obtain ⟨d', hd, h⟩ := oB_some h
    obtain ⟨e', he, h⟩ := oB_some h
    obtain ⟨g', hg, h⟩ := oB_some h
    obtain ⟨i', hi, h⟩ := oB_some h
    obtain ⟨j', hj, h⟩ := oB_some h
    cases h
    show f (T8.get z p (T8.ch dd (.n a b c d e g i j))) = some (T8.get z' p (T8.ch dd (.n a' b' c' d' e' g' i' j')))
    cases dd
    · exact mapT_get hz p ha
    · exact mapT_get hz p hb
    · exact mapT_get hz p hc
    · exact mapT_get hz p hd
    · exact mapT_get hz p he
    · exact mapT_get hz p hg
    · exact mapT_get hz p hi
    · exact mapT_get hz p hj
theorem mapT_tget {α : Type} {f : α → Option α} {z z' : α} (hz : f z = some z') (k i : Nat) {t t' : T8 α} (h : mapT f t = some t') : f (tget k z t i) = some (tget k z' t' i) := by
  rw [tget_eq, tget_eq]
  exact mapT_get hz _ h
section
variable {l : List Nat} {τ : RnT} {G : Gh}
theorem rnMp_ok (h : RnOk l τ) : ∀ {es fs : List (Sc × E)} {ents : List MapEntry}, rnMp τ es = some fs → All2 (fun (p : Sc × E) (e : MapEntry) => Sc.ok G p.1 e.key ∧ E.ok G p.2 e.val) es ents → All2 (fun (p : Sc × E) (e : MapEntry) => Sc.ok (gcG l G) p.1 e.key ∧ E.ok (gcG l G) p.2 e.val) fs ents
  | [], _, _, hr, ha => by cases hr; cases ha; exact .nil
  | p :: es, _, _, hr, ha => by
    obtain ⟨x, h1, hr⟩ := oB_some hr
    obtain ⟨y, h2, hr⟩ := oB_some hr
    obtain ⟨r, h3, hr⟩ := oB_some hr
    cases hr
    cases ha with
    | cons a b => exact .cons ⟨rnS_ok h h1 a.1, rnE_ok h h2 a.2⟩ (rnMp_ok h h3 b)
theorem rnO_ok (h : RnOk l τ) {o o' : Ob} {ob : Obj} {sz : Nat} (hr : rnO τ o = some o') (ho : ObOk G sz o ob) : ObOk (gcG l G) sz o' ob := by
  cases o with
  | no => cases hr; exact ho
  | row n x dep d t =>
    obtain ⟨d', h1, hr⟩ := oB_some hr
    obtain ⟨t', h2, hr⟩ := oB_some hr
    cases hr
    obtain ⟨arr, el, fz, e, k1, k2, k3, k4, k5, k6⟩ := ho
    exact ⟨arr, el, fz, e, k1, k2, k3, k4, k5, fun i hi => rnS_ok h (mapT_tget h1 dep i h2) (k6 i hi)⟩
  | mp es =>
    obtain ⟨fs, h1, hr⟩ := oB_some hr
    cases hr
    obtain ⟨ents, clock, e, k1, k2⟩ := ho
    exact ⟨ents, clock, e, k1, rnMp_ok h h1 k2⟩
  | bd el a buf =>
    obtain ⟨a', h1, hr⟩ := oB_some hr
    obtain ⟨b', h2, hr⟩ := oB_some hr
    cases hr
    obtain ⟨k0, p, v, e, k1, k2⟩ := ho
    exact ⟨k0, p, v, e, rnS_ok h h1 k1, rnS_ok h h2 k2⟩
  | by' el len n => cases hr; exact ho
theorem rnO_no {o : Ob} (h : rnO τ .no = some o) : o = .no := by cases h; rfl
/-- the new heap: each object is an old one by its new name, each new number once -/
theorem gcH_ok {H : HT} : ∀ (l p : List Nat) (K K' : HT), gcH τ H l p.length K = some K' → (∀ j, hp K j ≠ .no → ∃ id, p[j]? = some id ∧ id < HB ∧ tget 5 0 τ id = j + 1 ∧ rnO τ (hget H id) = some (hp K j)) → ∀ j, hp K' j ≠ .no → ∃ id, (p ++ l)[j]? = some id ∧ id < HB ∧ tget 5 0 τ id = j + 1 ∧ rnO τ (hget H id) = some (hp K' j)
  | [], p, K, K', h, hK, j, hj => by
    have h : some K = some K' := h
    cases h
    rw [List.append_nil]; exact hK j hj
  | id :: l, p, K, K', h, hK, j, hj => by
    obtain ⟨h0, h⟩ := cond_some (show cnd (and (Nat.blt id HB) (and (Nat.blt p.length HB) (Nat.beq (tget 5 0 τ id) (Nat.add p.length 1)))) (oB (rnO τ (hget H id)) fun o => T8.fc (hset K p.length o) fun K => gcH τ H l (Nat.add p.length 1) K) none = some K' from h)
    rw [Bool.and_eq_true, Bool.and_eq_true] at h0
    obtain ⟨o, h1, h⟩ := oB_some h
    rw [T8.fc_eq] at h
    have hp' : Nat.add p.length 1 = (p ++ [id]).length := by simp
    rw [hp'] at h
    have e : p ++ id :: l = (p ++ [id]) ++ l := by simp
    rw [e]
    refine gcH_ok l (p ++ [id]) _ _ h (fun i hi => ?_) j hj
    rw [hp_set _ (blt_true h0.2.1)] at hi ⊢
    unfold upd at hi ⊢
    by_cases c : i = p.length
    · rw [if_pos c]
      refine ⟨id, by rw [c]; simp, blt_true h0.1, by rw [c]; exact nbeq_eq h0.2.2, h1⟩
    · rw [if_neg c] at hi ⊢
      obtain ⟨i', g1, g2, g3, g4⟩ := hK i hi
      refine ⟨i', ?_, g2, g3, g4⟩
      have : i < p.length := (List.getElem?_eq_some_iff.1 g1).1
      rw [List.getElem?_append_left this]; exact g1
end
theorem gcH_lt {τ : RnT} {H : HT} : ∀ (l : List Nat) (j : Nat) (K K' : HT), gcH τ H l j K = some K' → ∀ id ∈ l, id < HB
  | [], _, _, _, _, _, q => by cases q
  | id :: l, j, K, K', h, i, q => by
    obtain ⟨h0, h⟩ := cond_some (show cnd (and (Nat.blt id HB) (and (Nat.blt j HB) (Nat.beq (tget 5 0 τ id) (Nat.add j 1)))) (oB (rnO τ (hget H id)) fun o => T8.fc (hset K j o) fun K => gcH τ H l (Nat.add j 1) K) none = some K' from h)
    rw [Bool.and_eq_true] at h0
    obtain ⟨o, h1, h⟩ := oB_some h
    rw [T8.fc_eq] at h
    rcases List.mem_cons.1 q with rfl | q
    · exact blt_true h0.1
    · exact gcH_lt l _ _ _ h i q
/-- what lies there, by the new numbers -/
theorem gc_ok {l : List Nat} {t t' : T8 V} {H H' : HT} (h : gc l t H = some (t', H')) {nt : Nat} {W : List Nat} {G : Gh} {w : World} {a : Act} (hR : R G (hp H) w) (hr : RegOk ⟨nt, W, []⟩ G ⟨t, []⟩ a) :
    R (gcG l G) (hp H') w ∧ RegOk ⟨nt, W, []⟩ (gcG l G) ⟨t', []⟩ a ∧ (∀ j, l.length ≤ j → gcG l G j = none) ∧ ∀ b, Foot (gcG l G) (hp H') b → Foot G (hp H) b := by
  unfold gc at h
  rw [T8.fc_eq] at h
  obtain ⟨t2, h1, h⟩ := oB_some h
  obtain ⟨K, h2, h⟩ := oB_some h
  cases h
  have hl := gcH_lt l 0 .z _ h2
  have hτ : RnOk l (mkRn l 0 .z) := mkRn_ok l [] .z hl fun id j _ q => by rw [tget_z] at q; cases q
  generalize mkRn l 0 .z = τ at *
  have hobj := gcH_ok l [] .z _ h2 (fun j hj => absurd (by rw [hp_z]) hj)
  rw [List.nil_append] at hobj
  have hg : ∀ j id, l[j]? = some id → gcG l G j = G id := fun j id q => by unfold gcG; rw [q]
  have hno : ∀ {j id}, id < HB → rnO τ (hget H id) = some (hp H' j) → hp H' j ≠ .no → hp H id ≠ .no := fun {j id} a b c q => by
    rw [hp_get a] at q
    rw [q] at b
    exact c (rnO_no b)
  refine ⟨⟨fun j hj => ?_, fun i j b si sj hi hj gi gj => ?_⟩, ⟨fun j h1' h2' => ?_, fun t p q => by cases q⟩, fun j hj => ?_, fun b hb => ?_⟩
  · obtain ⟨id, g1, g2, g3, g4⟩ := hobj j hj
    obtain ⟨b, sz, o, k1, k2, k3⟩ := hR.1 id (hno g2 g4 hj)
    rw [hp_get g2] at k3
    exact ⟨b, sz, o, by rw [hg j id g1]; exact k1, k2, rnO_ok hτ g4 k3⟩
  · obtain ⟨id, g1, g2, g3, g4⟩ := hobj i hi
    obtain ⟨id', g1', g2', g3', g4'⟩ := hobj j hj
    rw [hg i id g1] at gi
    rw [hg j id' g1'] at gj
    have := hR.2 id id' b si sj (hno g2 g4 hi) (hno g2' g4' hj) gi gj
    subst this
    omega
  · have := hr.w j h1' h2'
    refine rnV_ok hτ ?_ this
    exact mapT_tget (f := rnV τ) (z := V.t []) (z' := V.t []) rfl 2 j h1
  · unfold gcG; rw [List.getElem?_eq_none hj]
  · obtain ⟨j, sz, k1, k2⟩ := hb
    obtain ⟨id, g1, g2, g3, g4⟩ := hobj j k1
    rw [hg j id g1] at k2
    exact ⟨id, sz, hno g2 g4 k1, k2⟩
end
end Ev
end Go.Proofs.YtcchekmejnhlmaaGreat
