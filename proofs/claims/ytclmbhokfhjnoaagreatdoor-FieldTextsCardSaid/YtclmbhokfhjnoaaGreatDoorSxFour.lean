/-
  Values read as data; freezing; what an operation must show.
-/
import Derived.Test.YtclmbhokfhjnoaaGreatDoorSxThree
set_option linter.unusedVariables false
set_option linter.unusedSimpArgs false
set_option linter.unnecessarySimpa false
namespace Go.SX

mutual
theorem toV_sound (w : World) (M : Nat → Prop) : ∀ (x : D) (v v' : Value), x.toV = some v' → DR w M x v → v = v'
  | .v x, v, v', h, hr => by
    simp only [D.toV, Option.some.injEq] at h; subst h; cases hr; rfl
  | .agg cs, v, v', h, hr => by
    simp only [D.toV] at h
    split at h <;> simp only [Option.some.injEq, reduceCtorEq] at h
    rename_i l hl; subst h
    cases hr with
    | agg _ ys hle hh => rw [toVs_sound w M cs ys l hl hle hh]
  | .tup cs, v, v', h, hr => by
    simp only [D.toV] at h
    split at h <;> simp only [Option.some.injEq, reduceCtorEq] at h
    rename_i l hl; subst h
    cases hr with
    | tup _ ys hle hh => rw [toVs_sound w M cs ys l hl hle hh]
  | .lst _ _ _, v, v', h, hr => by simp [D.toV] at h
  | .fn _ _ _, v, v', h, hr => by simp [D.toV] at h
theorem toVs_sound (w : World) (M : Nat → Prop) : ∀ (cs : List D) (ys l : List Value), toVs cs = some l → cs.length = ys.length →
    (∀ (i : Nat) (c : D) (y : Value), cs[i]? = some c → ys[i]? = some y → DR w M c y) → ys = l
  | [], ys, l, h, hl, _ => by
    simp only [toVs, Option.some.injEq] at h; subst h; cases ys <;> simp_all
  | x :: cs, ys, l, h, hl, hh => by
    simp only [toVs] at h
    split at h <;> simp only [Option.some.injEq, reduceCtorEq] at h
    rename_i y1 l1 h1 h2; subst h
    cases ys with
    | nil => simp at hl
    | cons y ys =>
      rw [toV_sound w M x y y1 h1 (hh 0 x y rfl rfl), toVs_sound w M cs ys l1 h2 (by simpa using hl) (fun i c z hc hz => hh (i + 1) c z (by simpa using hc) (by simpa using hz))]
end

mutual
theorem toD_sound (w : World) (M : Nat → Prop) (hp : List (Nat × Blk)) (ρ : Nat → Value) : ∀ (x : AV) (v : Value) (y : D), x.toD = some y → VR w M hp ρ x v → DR w M y v
  | .d x, v, y, h, hr => by
    simp only [AV.toD, Option.some.injEq] at h; subst h; cases hr; assumption
  | .agg cs, v, y, h, hr => by
    simp only [AV.toD] at h
    split at h <;> simp only [Option.some.injEq, reduceCtorEq] at h
    rename_i l hl; subst h
    cases hr with
    | agg _ ys hle hh =>
      obtain ⟨h1, h2⟩ := toDs_sound w M hp ρ cs ys l hl hle hh
      exact .agg _ _ h1 h2
  | .tup cs, v, y, h, hr => by
    simp only [AV.toD] at h
    split at h <;> simp only [Option.some.injEq, reduceCtorEq] at h
    rename_i l hl; subst h
    cases hr with
    | tup _ ys hle hh =>
      obtain ⟨h1, h2⟩ := toDs_sound w M hp ρ cs ys l hl hle hh
      exact .tup _ _ h1 h2
  | .fn f a b, v, y, h, hr => by
    simp only [AV.toD] at h
    split at h <;> simp only [Option.some.injEq, reduceCtorEq] at h
    rename_i x1 y1 hx hy; subst h
    cases hr with
    | fn _ _ _ xs ys hl hm hh kk =>
      obtain ⟨h1, h2⟩ := toDs_sound w M hp ρ a xs x1 hx hl hh
      obtain ⟨h3, h4⟩ := toDs_sound w M hp ρ b ys y1 hy hm kk
      exact .fn _ _ _ _ _ h1 h3 h2 h4
  | .dptr _ _, v, y, h, hr => by simp [AV.toD] at h
  | .ptr _ _ _ _ _, v, y, h, hr => by simp [AV.toD] at h
  | .own _ _, v, y, h, hr => by simp [AV.toD] at h
  | .sub _ _ _ _ _, v, y, h, hr => by simp [AV.toD] at h
  | .junk, v, y, h, hr => by simp [AV.toD] at h
theorem toDs_sound (w : World) (M : Nat → Prop) (hp : List (Nat × Blk)) (ρ : Nat → Value) : ∀ (cs : List AV) (ys : List Value) (l : List D), toDs cs = some l → cs.length = ys.length →
    (∀ (i : Nat) (c : AV) (y : Value), cs[i]? = some c → ys[i]? = some y → VR w M hp ρ c y) →
    l.length = ys.length ∧ ∀ (i : Nat) (c : D) (y : Value), l[i]? = some c → ys[i]? = some y → DR w M c y
  | [], ys, l, h, hl, _ => by
    simp only [toDs, Option.some.injEq] at h; subst h; cases ys <;> simp_all
  | x :: cs, ys, l, h, hl, hh => by
    simp only [toDs] at h
    split at h <;> simp only [Option.some.injEq, reduceCtorEq] at h
    rename_i y1 l1 h1 h2; subst h
    cases ys with
    | nil => simp at hl
    | cons y ys =>
      obtain ⟨g1, g2⟩ := toDs_sound w M hp ρ cs ys l1 h2 (by simpa using hl) (fun i c z hc hz => hh (i + 1) c z (by simpa using hc) (by simpa using hz))
      refine ⟨by simpa using g1, fun i c z hc hz => ?_⟩
      cases i with
      | zero => simp only [List.getElem?_cons_zero, Option.some.injEq] at hc hz; subst hc; subst hz; exact toD_sound w M hp ρ x y y1 h1 (hh 0 x y rfl rfl)
      | succ i => exact g2 i c z (by simpa using hc) (by simpa using hz)
end

theorem norm_vr {w : World} {M : Nat → Prop} {hp : List (Nat × Blk)} {ρ : Nat → Value} {x : AV} {v : Value} (h : VR w M hp ρ x v) : VR w M hp ρ x.norm v := by
  unfold AV.norm
  split
  · rename_i y hy; exact .d _ _ (toD_sound w M hp ρ x v y hy h)
  · exact h
theorem toV_vr {w : World} {M : Nat → Prop} {hp : List (Nat × Blk)} {ρ : Nat → Value} {x : AV} {v v' : Value} (hx : x.toV = some v') (h : VR w M hp ρ x v) : v = v' := by
  unfold AV.toV at hx
  split at hx
  · rename_i y hy; exact toV_sound w M y v v' hx (toD_sound w M hp ρ x v y hy h)
  · cases hx

theorem ofCell_dr (w : World) (M : Nat → Prop) (v : Value) : DR w M (ofCell v) v := by
  cases v with
  | slice a n c =>
    cases a with
    | none =>
      simp only [ofCell]
      split
      · rename_i hb
        simp only [Bool.and_eq_true] at hb
        have h1 := Nat.eq_of_beq_eq_true hb.1
        have h2 := Nat.eq_of_beq_eq_true hb.2
        subst h1; subst h2
        exact .lst true 0 [] none 0 0 0 (fun _ => undef) (fun _ => rfl) (Nat.le_refl _) (fun h => absurd rfl h) (by simp) (by simp) (by simp)
      · exact .v _
    | some a => exact .v _
  | func f a b =>
    simp only [ofCell]
    split
    · rename_i ha hb
      have h1 : a = #[] := by simpa using ha
      have h2 : b = #[] := by simpa using hb
      subst h1; subst h2
      exact .fn f [] [] [] [] rfl rfl (by simp) (by simp)
    · exact .v _
  | _ => exact .v _
theorem ofV_dr (w : World) (M : Nat → Prop) (v : Value) : DR w M (ofV v) v := by
  unfold ofV
  split
  · rename_i cs
    have := DR.agg (w := w) (M := M) (cs.toList.map ofCell) cs.toList (by simp) (fun i c y hc hy => by
      simp only [List.getElem?_map] at hc; rw [hy] at hc; simp only [Option.map_some, Option.some.injEq] at hc; subst hc; exact ofCell_dr _ _ _)
    simpa using this
  · exact ofCell_dr _ _ _
theorem ofV_vr (w : World) (M : Nat → Prop) (hp : List (Nat × Blk)) (ρ : Nat → Value) (v : Value) : VR w M hp ρ (.d (ofV v)) v := .d _ _ (ofV_dr w M v)

theorem freezeAll_look (hp : List (Nat × Blk)) (l : List Nat) (b : Nat) : look (freezeAll hp l ++ hp) b = look hp b ∨
    ∃ ver sz es, look hp b = some (.row ver sz es) ∧ look (freezeAll hp l ++ hp) b = some (.frozen ver sz es) := by
  induction l with
  | nil => exact .inl rfl
  | cons c l ih =>
    simp only [freezeAll]
    split
    · rename_i ver sz es hc
      rw [List.cons_append]
      by_cases h : c = b
      · subst h; exact .inr ⟨ver, sz, es, hc, look_cons_same _ _ _⟩
      · rw [look_cons_other _ _ h]; exact ih
    · exact ih
theorem freezeAll_mem (hp : List (Nat × Blk)) (l : List Nat) (b : Nat) (hb : b ∈ l) {ver sz : Nat} {es : List D} (hr : look hp b = some (.row ver sz es)) :
    look (freezeAll hp l ++ hp) b = some (.frozen ver sz es) := by
  induction l with
  | nil => simp at hb
  | cons c l ih =>
    simp only [freezeAll]
    by_cases h : c = b
    · subst h; rw [hr]; exact look_cons_same _ _ _
    · have hb' : b ∈ l := by simpa [Ne.symm h] using hb
      split
      · rw [List.cons_append, look_cons_other _ _ h]; exact ih hb'
      · exact ih hb'

theorem HSim.freeze {cx : Cx} {F : Nat → Prop} {hp : List (Nat × Blk)} {ρ : Nat → Value} {w : World} (h : HSim cx F hp ρ w) (l : List Nat) :
    HSim cx F (freezeAll hp l ++ hp) ρ w ∧ Steps1 hp ρ w (freezeAll hp l ++ hp) ρ w := by
  induction l with
  | nil => exact ⟨h, Steps1.refl _ _ _⟩
  | cons b l ih =>
    simp only [freezeAll]
    split
    · rename_i ver sz es hb
      rw [List.cons_append]
      obtain ⟨ih1, ih2⟩ := ih
      rcases freezeAll_look hp l b with hl | ⟨ver', sz', es', h1, h2⟩
      · have hl' := hl.trans hb
        obtain ⟨g1, g2, _⟩ := ih1.freeze1 hl'
        exact ⟨g1, ih2.trans g2⟩
      · rw [hb] at h1; cases h1
        have hle : ∀ c, look ((b, Blk.frozen ver sz es) :: (freezeAll hp l ++ hp)) c = look (freezeAll hp l ++ hp) c := by
          intro c
          by_cases hc : b = c
          · subst hc; rw [look_cons_same, h2]
          · rw [look_cons_other _ _ hc]
        obtain ⟨g1, g2⟩ := look_ext_hsim hle ih1
        exact ⟨g1, ih2.trans g2⟩
    · exact ih

mutual
theorem toDH_sound {cx : Cx} {F : Nat → Prop} {hp : List (Nat × Blk)} {ρ : Nat → Value} {w : World} (h : HSim cx F hp ρ w) (fz : List Nat) :
    ∀ (x : AV) (v : Value) (y : D) (fs : List Nat), x.toDH hp = some (y, fs) → (∀ b, b ∈ fs → b ∈ fz) → VR w (MM F hp ρ) hp ρ x v →
      DR w (MM F (freezeAll hp fz ++ hp) ρ) y v
  | .d x, v, y, fs, hx, _, hr => by
    simp only [AV.toDH, Option.some.injEq, Prod.mk.injEq] at hx; obtain ⟨rfl, rfl⟩ := hx
    cases hr; rename_i hr; exact (h.freeze fz).2.dr hr
  | .agg cs, v, y, fs, hx, hf, hr => by
    simp only [AV.toDH] at hx
    split at hx <;> simp only [Option.some.injEq, reduceCtorEq, Prod.mk.injEq] at hx
    rename_i l fs' hl; obtain ⟨rfl, rfl⟩ := hx
    cases hr with
    | agg _ ys hle hh =>
      obtain ⟨h1, h2⟩ := toDHs_sound h fz cs ys l fs' hl hf hle hh
      exact .agg _ _ h1 h2
  | .tup cs, v, y, fs, hx, hf, hr => by
    simp only [AV.toDH] at hx
    split at hx <;> simp only [Option.some.injEq, reduceCtorEq, Prod.mk.injEq] at hx
    rename_i l fs' hl; obtain ⟨rfl, rfl⟩ := hx
    cases hr with
    | tup _ ys hle hh =>
      obtain ⟨h1, h2⟩ := toDHs_sound h fz cs ys l fs' hl hf hle hh
      exact .tup _ _ h1 h2
  | .fn f a b, v, y, fs, hx, hf, hr => by
    simp only [AV.toDH] at hx
    split at hx <;> simp only [Option.some.injEq, reduceCtorEq, Prod.mk.injEq] at hx
    rename_i x1 f1 y1 f2 hx1 hy1; obtain ⟨rfl, rfl⟩ := hx
    cases hr with
    | fn _ _ _ xs ys hl hm hh kk =>
      obtain ⟨h1, h2⟩ := toDHs_sound h fz a xs x1 f1 hx1 (fun b hb => hf b (List.mem_append.2 (.inl hb))) hl hh
      obtain ⟨h3, h4⟩ := toDHs_sound h fz b ys y1 f2 hy1 (fun b hb => hf b (List.mem_append.2 (.inr hb))) hm kk
      exact .fn _ _ _ _ _ h1 h3 h2 h4
  | .own b ver, v, y, fs, hx, hf, hr => by
    simp only [AV.toDH] at hx
    have hst := (h.freeze fz).2
    have hs := (h.freeze fz).1
    cases hr with
    | own _ _ k _ hb hv ho hy =>
      rw [hb] at hx
      cases k with
      | box x => simp at hx
      | loop _ _ _ _ _ _ => simp at hx
      | mp _ => simp at hx
      | it _ _ => simp at hx
      | fbox _ => simp at hx
      | left _ => simp at hx
      | dead => simp at hx
      | row ver' sz es =>
        simp only at hx
        split at hx <;> simp only [Option.some.injEq, reduceCtorEq, Prod.mk.injEq] at hx
        rename_i hbeq; obtain ⟨rfl, rfl⟩ := hx
        rw [hy (Nat.eq_of_beq_eq_true hbeq)]
        have := freezeAll_mem hp fz b (hf b (by simp)) hb
        exact hs.blk b _ this
      | frozen ver' sz es =>
        simp only at hx
        split at hx <;> simp only [Option.some.injEq, reduceCtorEq, Prod.mk.injEq] at hx
        rename_i hbeq; obtain ⟨rfl, rfl⟩ := hx
        rw [hy (Nat.eq_of_beq_eq_true hbeq)]
        have := h.blk b _ hb
        exact hst.dr this
      | virt ver' sz es =>
        simp only at hx
        split at hx <;> simp only [Option.some.injEq, reduceCtorEq, Prod.mk.injEq] at hx
        rename_i hbeq; obtain ⟨rfl, rfl⟩ := hx
        rw [hy (Nat.eq_of_beq_eq_true hbeq)]
        have := h.blk b _ hb
        exact hst.dr this
  | .dptr _ _, v, y, fs, hx, _, hr => by simp [AV.toDH] at hx
  | .ptr _ _ _ _ _, v, y, fs, hx, _, hr => by simp [AV.toDH] at hx
  | .sub _ _ _ _ _, v, y, fs, hx, _, hr => by simp [AV.toDH] at hx
  | .junk, v, y, fs, hx, _, hr => by simp [AV.toDH] at hx
theorem toDHs_sound {cx : Cx} {F : Nat → Prop} {hp : List (Nat × Blk)} {ρ : Nat → Value} {w : World} (h : HSim cx F hp ρ w) (fz : List Nat) :
    ∀ (cs : List AV) (ys : List Value) (l : List D) (fs : List Nat), toDHs hp cs = some (l, fs) → (∀ b, b ∈ fs → b ∈ fz) → cs.length = ys.length →
    (∀ (i : Nat) (c : AV) (y : Value), cs[i]? = some c → ys[i]? = some y → VR w (MM F hp ρ) hp ρ c y) →
    l.length = ys.length ∧ ∀ (i : Nat) (c : D) (y : Value), l[i]? = some c → ys[i]? = some y → DR w (MM F (freezeAll hp fz ++ hp) ρ) c y
  | [], ys, l, fs, hx, _, hl, _ => by
    simp only [toDHs, Option.some.injEq, Prod.mk.injEq] at hx; obtain ⟨rfl, rfl⟩ := hx; cases ys <;> simp_all
  | x :: cs, ys, l, fs, hx, hf, hl, hh => by
    simp only [toDHs] at hx
    split at hx <;> simp only [Option.some.injEq, reduceCtorEq, Prod.mk.injEq] at hx
    rename_i y1 f1 l1 f2 h1 h2; obtain ⟨rfl, rfl⟩ := hx
    cases ys with
    | nil => simp at hl
    | cons y ys =>
      obtain ⟨g1, g2⟩ := toDHs_sound h fz cs ys l1 f2 h2 (fun b hb => hf b (List.mem_append.2 (.inr hb))) (by simpa using hl) (fun i c z hc hz => hh (i + 1) c z (by simpa using hc) (by simpa using hz))
      refine ⟨by simpa using g1, fun i c z hc hz => ?_⟩
      cases i with
      | zero =>
        simp only [List.getElem?_cons_zero, Option.some.injEq] at hc hz; subst hc; subst hz
        exact toDH_sound h fz x y y1 f1 h1 (fun b hb => hf b (List.mem_append.2 (.inl hb))) (hh 0 x y rfl rfl)
      | succ i => exact g2 i c z (by simpa using hc) (by simpa using hz)
end

theorem nth_getElem? {α : Type} (l : List α) (i : Nat) : nth l i = l[i]? := by
  induction l generalizing i with
  | nil => rfl
  | cons x l ih => cases i with
    | zero => rfl
    | succ i => simpa [nth] using ih i

theorem pureRun_run {α : Type} {P : Program} {s : Sem α} {a : α} (h : pureRun P s = some a) (w : World) : s.run P w = .ok a w := by
  induction s generalizing w with
  | pure x => simp only [pureRun, Option.some.injEq] at h; subst h; rfl
  | program k ih => simp only [pureRun] at h; exact ih _ h w
  | mark m k ih => simp only [pureRun] at h; exact ih h w
  | _ => simp [pureRun] at h

/-- What an operation must show. -/
def OpOK (cx : Cx) (F : Nat → Prop) (hp : List (Nat × Blk)) (ρ : Nat → Value) (w : World) (up : List (Nat × Blk)) (x : AV) (v : Value) (w' : World) : Prop :=
  ∃ ρ', HSim cx F (up ++ hp) ρ' w' ∧ Steps1 hp ρ w (up ++ hp) ρ' w' ∧ VR w' (MM F (up ++ hp) ρ') (up ++ hp) ρ' x v

theorem OpOK.quiet {cx : Cx} {F : Nat → Prop} {hp : List (Nat × Blk)} {ρ : Nat → Value} {w : World} (h : HSim cx F hp ρ w) {x : AV} {v : Value} (hx : VR w (MM F hp ρ) hp ρ x v) :
    OpOK cx F hp ρ w [] x v w := ⟨ρ, h, Steps1.refl _ _ _, hx⟩
theorem OpOK.frz {cx : Cx} {F : Nat → Prop} {hp : List (Nat × Blk)} {ρ : Nat → Value} {w : World} (h : HSim cx F hp ρ w) (fs : List Nat) {x : AV} {v : Value}
    (hx : VR w (MM F (freezeAll hp fs ++ hp) ρ) (freezeAll hp fs ++ hp) ρ x v) : OpOK cx F hp ρ w (freezeAll hp fs) x v w :=
  ⟨ρ, (h.freeze fs).1, (h.freeze fs).2, hx⟩

/-- The operation's run, and what it leaves. -/
def Good (cx : Cx) (F : Nat → Prop) (hp : List (Nat × Blk)) (ρ : Nat → Value) (w : World) (r : R) (s : Sem Next) : Prop :=
  ∃ v w', (s.run cx.P w = .ok (.value v) w' ∨ (s.run cx.P w = .ok .skip w' ∧ v = undef)) ∧ OpOK cx F hp ρ w r.up r.val v w'

theorem Good.quiet {cx : Cx} {F : Nat → Prop} {hp : List (Nat × Blk)} {ρ : Nat → Value} {w : World} (h : HSim cx F hp ρ w) {x : AV} {v : Value} {ob : List Prop} {orc : List Orc} {s : Sem Next}
    (hs : s.run cx.P w = .ok (.value v) w) (hx : VR w (MM F hp ρ) hp ρ x v) : Good cx F hp ρ w { val := x, up := [], ob, orc } s :=
  ⟨v, w, .inl hs, OpOK.quiet h hx⟩
end Go.SX
