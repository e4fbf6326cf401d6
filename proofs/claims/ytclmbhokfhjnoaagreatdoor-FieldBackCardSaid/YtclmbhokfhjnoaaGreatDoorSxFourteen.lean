/-
  What an operation makes of a part of the heap it makes of the whole; what it makes of its operands alone.
-/
import Derived.Test.YtclmbhokfhjnoaaGreatDoorSxThirteen
import Derived.Test.YtclmbhokfhjnoaaGreatDoorSxEight
set_option linter.unusedVariables false
set_option linter.unusedSimpArgs false
set_option linter.unnecessarySimpa false
namespace Go.SX
section
variable {cx : Cx} {H G : List (Nat × Blk)} {sym : Bool} {orc : List Orc} {ev ev' : Operand → AV}

def SubH (H G : List (Nat × Blk)) : Prop := ∀ b k, look H b = some k → look G b = some k

mutual
theorem toDH_mono (hs : SubH H G) : ∀ (x : AV) (y : D) (fs : List Nat), x.toDH H = some (y, fs) → x.toDH G = some (y, fs) ∧ ∀ b, b ∈ fs → ∃ v s e, look H b = some (.row v s e)
  | .d x, y, fs, h => by
    simp only [AV.toDH, Option.some.injEq, Prod.mk.injEq] at h ⊢; obtain ⟨rfl, rfl⟩ := h; simp
  | .agg cs, y, fs, h => by
    simp only [AV.toDH] at h ⊢
    split at h <;> simp only [Option.some.injEq, reduceCtorEq, Prod.mk.injEq] at h
    rename_i l fs' hl; obtain ⟨rfl, rfl⟩ := h
    obtain ⟨h1, h2⟩ := toDHs_mono hs cs l fs' hl
    rw [h1]; exact ⟨rfl, h2⟩
  | .tup cs, y, fs, h => by
    simp only [AV.toDH] at h ⊢
    split at h <;> simp only [Option.some.injEq, reduceCtorEq, Prod.mk.injEq] at h
    rename_i l fs' hl; obtain ⟨rfl, rfl⟩ := h
    obtain ⟨h1, h2⟩ := toDHs_mono hs cs l fs' hl
    rw [h1]; exact ⟨rfl, h2⟩
  | .fn f a b, y, fs, h => by
    simp only [AV.toDH] at h ⊢
    split at h <;> simp only [Option.some.injEq, reduceCtorEq, Prod.mk.injEq] at h
    rename_i x1 f1 y1 f2 hx1 hy1; obtain ⟨rfl, rfl⟩ := h
    obtain ⟨h1, h2⟩ := toDHs_mono hs a x1 f1 hx1
    obtain ⟨h3, h4⟩ := toDHs_mono hs b y1 f2 hy1
    rw [h1, h3]
    refine ⟨rfl, fun c hc => ?_⟩
    rcases List.mem_append.1 hc with hc | hc
    · exact h2 c hc
    · exact h4 c hc
  | .own b ver, y, fs, h => by
    simp only [AV.toDH] at h ⊢
    cases hb : look H b with
    | none => rw [hb] at h; cases h
    | some k =>
      rw [hs b k hb]
      rw [hb] at h
      refine ⟨h, ?_⟩
      cases k with
      | box _ => simp at h
      | loop _ _ _ _ _ _ => simp at h
      | mp _ => simp at h
      | it _ _ => simp at h
      | fbox _ => simp at h
      | left _ => simp at h
      | dead => simp at h
      | row v s e =>
        simp only at h
        split at h <;> simp only [Option.some.injEq, reduceCtorEq, Prod.mk.injEq] at h
        obtain ⟨rfl, rfl⟩ := h
        intro c hc
        simp only [List.mem_singleton] at hc
        subst hc; exact ⟨v, s, e, hb⟩
      | frozen v s e =>
        simp only at h
        split at h <;> simp only [Option.some.injEq, reduceCtorEq, Prod.mk.injEq] at h
        obtain ⟨rfl, rfl⟩ := h; simp
      | virt v s e =>
        simp only at h
        split at h <;> simp only [Option.some.injEq, reduceCtorEq, Prod.mk.injEq] at h
        obtain ⟨rfl, rfl⟩ := h; simp
  | .dptr _ _, y, fs, h => by simp [AV.toDH] at h
  | .ptr _ _ _ _ _, y, fs, h => by simp [AV.toDH] at h
  | .sub _ _ _ _ _, y, fs, h => by simp [AV.toDH] at h
  | .junk, y, fs, h => by simp [AV.toDH] at h
theorem toDHs_mono (hs : SubH H G) : ∀ (cs : List AV) (l : List D) (fs : List Nat), toDHs H cs = some (l, fs) → toDHs G cs = some (l, fs) ∧ ∀ b, b ∈ fs → ∃ v s e, look H b = some (.row v s e)
  | [], l, fs, h => by
    simp only [toDHs, Option.some.injEq, Prod.mk.injEq] at h ⊢; obtain ⟨rfl, rfl⟩ := h; simp
  | x :: cs, l, fs, h => by
    simp only [toDHs] at h ⊢
    split at h <;> simp only [Option.some.injEq, reduceCtorEq, Prod.mk.injEq] at h
    rename_i y1 f1 l1 f2 h1 h2; obtain ⟨rfl, rfl⟩ := h
    obtain ⟨g1, g2⟩ := toDH_mono hs x y1 f1 h1
    obtain ⟨g3, g4⟩ := toDHs_mono hs cs l1 f2 h2
    rw [g1, g3]
    refine ⟨rfl, fun c hc => ?_⟩
    rcases List.mem_append.1 hc with hc | hc
    · exact g2 c hc
    · exact g4 c hc
end

theorem freezeAll_mono (hs : SubH H G) (fs : List Nat) (h : ∀ b, b ∈ fs → ∃ v s e, look H b = some (.row v s e)) : freezeAll G fs = freezeAll H fs := by
  induction fs with
  | nil => rfl
  | cons b l ih =>
    obtain ⟨v, s, e, hb⟩ := h b List.mem_cons_self
    simp only [freezeAll, hb, hs b _ hb, ih fun c hc => h c (List.mem_cons_of_mem _ hc)]

theorem curr_mono (hs : SubH H G) {b ver : Nat} (h : curr H b ver = true) : curr G b ver = true := by
  unfold curr at h ⊢
  cases hb : look H b with
  | none => rw [hb] at h; cases h
  | some k => rw [hb] at h; rw [hs b k hb]; exact h

theorem curr_look (hs : SubH H G) {b ver : Nat} (h : curr H b ver = true) : look G b = look H b := by
  unfold curr at h
  split at h
  · rename_i k hk; rw [hk]; exact hs b k hk
  · cases h
theorem elemsV_mono (hs : SubH H G) {x : AV} {es : List D} (h : elemsV H x = some es) : elemsV G x = some es := by
  unfold elemsV at h ⊢
  split at h
  · exact h
  · rename_i b ver
    cases hb : look H b with
    | none => rw [hb] at h; cases h
    | some k => rw [hb] at h; simp only [hs b k hb]; exact h
  · split at h
    case h_2 => cases h
    rename_i hc
    rw [curr_mono hs hc]; exact h
  · cases h

theorem addend_mono (hs : SubH H G) {x : AV} {q : Nat × List D × List Nat} (h : addend H x = some q) : addend G x = some q ∧ ∀ b, b ∈ q.2.2 → ∃ v s e, look H b = some (.row v s e) := by
  unfold addend at h ⊢
  split at h
  · rename_i f sz es fs hd
    obtain ⟨h1, h2⟩ := toDH_mono hs _ _ _ hd
    rw [h1]
    simp only [Option.some.injEq] at h; subst h
    exact ⟨rfl, h2⟩
  · cases h

theorem lookF_mono (hs : SubH H G) {b : Nat} {x : SX.D} (h : lookF H b = some x) : lookF G b = some x := by
  unfold lookF at h ⊢
  cases hb : look H b with
  | none => rw [hb] at h; cases h
  | some k => rw [hb] at h; rw [hs b k hb]; exact h
theorem unf_dptr (hs : SubH H G) {x : AV} {y : SX.D} {off : Nat} (h : unf H x = .dptr y off) : unf G x = .dptr y off := by
  cases x with
  | ptr b ver sz i o =>
    have h : unfP H b ver sz i o = .dptr y off := h
    show unfP G b ver sz i o = .dptr y off
    unfold unfP at h ⊢
    cases hl : lookF H b with
    | none => rw [hl] at h; cases h
    | some x => rw [hl] at h; rw [lookF_mono hs hl]; exact h
  | d _ => exact h
  | agg _ => exact h
  | tup _ => exact h
  | dptr _ _ => exact h
  | own _ _ => exact h
  | sub _ _ _ _ _ => exact h
  | fn _ _ _ => exact h
  | junk => exact h
theorem unf_ptr (hs : SubH H G) {x : AV} {b ver sz i off : Nat} {q : AV × List Prop × List Orc} (h : unf H x = .ptr b ver sz i off) (hl : blkLoad sym orc H b ver sz i = some q) : unf G x = .ptr b ver sz i off := by
  cases x with
  | ptr b' ver' sz' i' o =>
    have h : unfP H b' ver' sz' i' o = .ptr b ver sz i off := h
    show unfP G b' ver' sz' i' o = .ptr b ver sz i off
    unfold unfP at h ⊢
    cases hf : lookF H b' with
    | some x => rw [hf] at h; rw [lookF_mono hs hf]; exact h
    | none =>
      rw [hf] at h
      simp only [AV.ptr.injEq] at h
      obtain ⟨rfl, rfl, rfl, rfl, rfl⟩ := h
      have : lookF G b' = none := by
        unfold blkLoad at hl
        unfold lookF at hf ⊢
        cases hb : look H b' with
        | none => rw [hb] at hl; cases hl
        | some k => rw [hb] at hf; rw [hs b' k hb]; exact hf
      rw [this]
  | d _ => exact h
  | agg _ => exact h
  | tup _ => exact h
  | dptr _ _ => exact h
  | own _ _ => exact h
  | sub _ _ _ _ _ => exact h
  | fn _ _ _ => exact h
  | junk => exact h
theorem blkLoad_mono (hs : SubH H G) {b ver sz i : Nat} {q : AV × List Prop × List Orc} (h : blkLoad sym orc H b ver sz i = some q) : blkLoad sym orc G b ver sz i = some q := by
  unfold blkLoad at h ⊢
  cases hb : look H b with
  | none => rw [hb] at h; cases h
  | some k => rw [hb] at h; rw [hs b k hb]; exact h

theorem aindexAddr0_mono (hs : SubH H G) {t : TypeId} {x : AV} {i : Int} {r : R} (h : aindexAddr0 cx sym orc H t x i = some r) : aindexAddr0 cx sym orc G t x i = some r := by
  unfold aindexAddr0 at h ⊢
  split at h
  · split at h
    case h_2 => cases h
    split at h
    · split at h
      case h_2 => cases h
      rename_i hc
      simp only [curr_mono hs hc]; exact h
    · exact h
    · cases h
  · split at h
    · cases h
    split at h
    · rename_i b ver
      cases hb : look H b with
      | none => rw [hb] at h; cases h
      | some k => rw [hb] at h; simp only [hs b k hb]; exact h
    · exact h
    · split at h
      case h_2 => cases h
      rename_i hc hd
      simp only [Bool.and_eq_true] at hc
      simp only [curr_mono hs hc.1, hc.2, hd, Bool.and_true, curr_look hs hc.1]; exact h
    · cases h
  · cases h

theorem aindexAddr_mono (hs : SubH H G) {t : TypeId} {x : AV} {i : Int} {r : R} (h : aindexAddr cx sym orc H t x i = some r) : aindexAddr cx sym orc G t x i = some r := by
  unfold aindexAddr at h ⊢
  split at h
  · split at h
    case h_2 => cases h
    rename_i q hq
    rw [aindexAddr0_mono hs hq]
    exact h
  · exact aindexAddr0_mono hs h

theorem aslice_mono (hs : SubH H G) {t : TypeId} {x : AV} {lo hi mx : Option AV} {r : R} (h : aslice cx sym orc H t x lo hi mx = some r) : aslice cx sym orc G t x lo hi mx = some r := by
  unfold aslice at h ⊢
  split at h
  · exact h
  · split at h
    case h_3 => cases h
    · rename_i elem full sz es fs hu hd
      obtain ⟨h1, h2⟩ := toDH_mono hs _ _ _ hd
      simp only [hu, h1]
      rw [freezeAll_mono hs fs h2]
      exact h
    · rename_i elem m full sz es fs hu hd
      obtain ⟨h1, h2⟩ := toDH_mono hs _ _ _ hd
      simp only [hu, h1]
      rw [freezeAll_mono hs fs h2]
      exact h

theorem ashrink_mono (hs : SubH H G) {t : TypeId} {x : AV} {lo hi mx : Option AV} {r : R} (h : ashrink cx sym orc H t x lo hi mx = some r) : ashrink cx sym orc G t x lo hi mx = some r := by
  unfold ashrink at h ⊢
  split at h
  case h_2 => cases h
  cases hb : look H _ with
  | none => rw [hb] at h; simp at h
  | some k => rw [hb] at h; simp only [hs _ k hb]; exact h
theorem ashrink_none (hs : SubH H G) {t : TypeId} {x : AV} {lo hi mx : Option AV} {r : R} (hn : ashrink cx sym orc H t x lo hi mx = none) (h : aslice cx sym orc H t x lo hi mx = some r) : ashrink cx sym orc G t x lo hi mx = none := by
  unfold ashrink at hn ⊢
  split
  case h_2 => rfl
  rename_i o b ver ho
  rw [ho] at hn
  simp only at hn
  cases hb : look H b with
  | none =>
    unfold aslice at h
    split at h
    · rename_i hx; cases hx
    · split at h
      case h_3 => cases h
      · rename_i hd; simp [AV.toDH, hb] at hd
      · rename_i hd; simp [AV.toDH, hb] at hd
  | some k => rw [hb] at hn; simp only [hs b k hb]; exact hn

theorem asub_mono (hs : SubH H G) {t : TypeId} {x : AV} {lo hi mx : Option AV} {r : R} (h : asub cx sym orc H t x lo hi mx = some r) : asub cx sym orc G t x lo hi mx = some r := by
  unfold asub at h ⊢
  split at h
  case h_2 => cases h
  cases hb : look H _ with
  | none => rw [hb] at h; simp at h
  | some k => rw [hb] at h; simp only [hs _ k hb]; exact h
theorem asub_none (hs : SubH H G) {t : TypeId} {x : AV} {lo hi mx : Option AV} {r : R} (hn : asub cx sym orc H t x lo hi mx = none) (h : aslice cx sym orc H t x lo hi mx = some r) : asub cx sym orc G t x lo hi mx = none := by
  unfold asub at hn ⊢
  split
  case h_2 => rfl
  rename_i o b ver _ l ho
  rw [ho] at hn
  simp only at hn
  cases hb : look H b with
  | none =>
    unfold aslice at h
    split at h
    · rename_i hx; cases hx
    · split at h
      case h_3 => cases h
      · rename_i hd; simp [AV.toDH, hb] at hd
      · rename_i hd; simp [AV.toDH, hb] at hd
  | some k => rw [hb] at hn; simp only [hs b k hb]; exact hn
theorem ashrink_none2 (hs : SubH H G) {t : TypeId} {x : AV} {lo hi mx : Option AV} {r : R} (hn : ashrink cx sym orc H t x lo hi mx = none) (h : asub cx sym orc H t x lo hi mx = some r) : ashrink cx sym orc G t x lo hi mx = none := by
  unfold asub at h
  split at h
  case h_2 => cases h
  unfold ashrink
  split
  case h_2 => rfl
  rename_i hlo _
  cases hlo

theorem aappend_mono (hs : SubH H G) {name : Nat} (hn : look G name = none) {t : TypeId} {s x : AV} {r : R} (h : aappend cx sym orc H name t s x = some r) : aappend cx sym orc G name t s x = some r := by
  unfold aappend at h ⊢
  split at h
  case h_2 => cases h
  rename_i elem asz ds fs hu hadd
  obtain ⟨h1, h2⟩ := addend_mono hs hadd
  simp only [hu, h1]
  rw [freezeAll_mono hs fs h2]
  split at h
  · cases h
  split at h
  · cases h
  split at h
  · rename_i b ver
    cases hb : look H b with
    | none => rw [hb] at h; cases h
    | some k => rw [hb] at h; simp only [hs b k hb]; exact h
  · split at h
    · cases h
    split at h
    case h_2 => cases h
    rename_i ob o' how
    split at h
    · rename_i hnil
      split at h
      case h_3 => cases h
      · rename_i htold
        simp only [htold]; exact h
      · rename_i htold _
        simp only [htold, hn]; exact h
    · exact h
    · cases h
  · cases h

theorem acopy_mono (hs : SubH H G) {t : TypeId} {d s : AV} {r : R} (h : acopy cx orc H t d s = some r) : acopy cx orc G t d s = some r := by
  unfold acopy at h ⊢
  split at h
  case h_2 => cases h
  rename_i elem b ver asz ds fs hu hadd
  obtain ⟨h1, h2⟩ := addend_mono hs hadd
  simp only [hu, h1]
  rw [freezeAll_mono hs fs h2]
  cases hb : look H b with
  | none => rw [hb] at h; simp at h
  | some k => rw [hb] at h; simp only [hs b k hb]; exact h

theorem abuiltin_mono (hs : SubH H G) {name : Nat} (hn : look G name = none) {b : Builtin} {ats : Array TypeId} {ty : TypeId} {args : List AV} {r : R} (h : abuiltin cx sym orc H name b ats ty args = some r) :
    (∀ x v, elemsV H x = none → x.toV = some v → elemsV G x = none) → abuiltin cx sym orc G name b ats ty args = some r := by
  intro hV
  unfold abuiltin at h ⊢
  split at h
  · split at h
    case h_2 => cases h
    split at h
    · exact aappend_mono hs hn h
    · unfold agrow at h ⊢
      split at h
      case h_2 => cases h
      split at h
      case h_2 => cases h
      rename_i hn0
      simp only [hn]
      simp_all
  · split at h
    case h_2 => cases h
    exact acopy_mono hs h
  · split at h
    case h_2 => cases h
    split at h
    · rename_i es hes
      simp only [elemsV_mono hs hes]; exact h
    · rename_i hes
      split at h
      case h_2 => cases h
      rename_i v hv
      simp only [hV _ _ hes hv, hv]; exact h
  · exact h
  · exact h
  · exact h
  · split at h
    case h_2 => cases h
    unfold aclear at h ⊢
    split at h
    case h_2 => cases h
    rename_i b _ _ _ _ _
    cases hb : look H b with
    | none => rw [hb] at h; simp at h
    | some k => rw [hb] at h; simp only [hs b k hb]; exact h
  · cases h

theorem elemsV_none {x : AV} {v : Value} (h : x.toV = some v) : elemsV H x = none ↔ elemsV G x = none := by
  unfold elemsV
  split
  · simp
  · rename_i b ver
    simp [AV.toV, AV.toD] at h
  · simp [AV.toV, AV.toD] at h
  · simp

theorem litElems_mono (hs : SubH H G) {s : Nat} : ∀ (parts : List (Nat × AV)) (n : Nat) (es : List D) (fs : List Nat), litElems H s n parts = some (es, fs) → litElems G s n parts = some (es, fs) ∧ ∀ b, b ∈ fs → ∃ v s e, look H b = some (.row v s e)
  | [], n, es, fs, h => by
    simp only [litElems, Option.some.injEq, Prod.mk.injEq] at h ⊢; obtain ⟨rfl, rfl⟩ := h; simp
  | (i, x) :: l, n, es, fs, h => by
    simp only [litElems] at h ⊢
    split at h
    case h_2 => cases h
    rename_i cs y f1 ys f2 hcs hy hys
    obtain ⟨g1, g2⟩ := toDH_mono hs _ _ _ hy
    obtain ⟨g3, g4⟩ := litElems_mono hs l (n + 1) ys f2 hys
    simp only [hcs, g1, g3]
    refine ⟨h, ?_⟩
    split at h
    case h_2 => cases h
    split at h
    case h_2 => cases h
    simp only [Option.some.injEq, Prod.mk.injEq] at h; obtain ⟨rfl, rfl⟩ := h
    refine fun c hc => ?_
    rcases List.mem_append.1 hc with hc | hc
    · exact g2 c hc
    · exact g4 c hc

theorem astore_mono (hs : SubH H G) {t : TypeId} {p y : AV} {r : R} (h : astore cx sym orc H t p y = some r) : astore cx sym orc G t p y = some r := by
  unfold astore at h ⊢
  split at h
  case h_2 => cases h
  split at h
  · rename_i hl hb
    simp only [hl, hs _ _ hb]; exact h
  · rename_i ver sz' es hl hb
    simp only [hl, hs _ _ hb]
    split at h
    case h_2 => cases h
    rename_i yd fs hc hyd
    obtain ⟨h1, h2⟩ := toDH_mono hs _ _ _ hyd
    simp only [hc, h1]
    rw [freezeAll_mono hs fs h2]
    exact h
  · cases h

theorem ownMap_mono (hs : SubH H G) {m : AV} {p : Nat × List D} (h : ownMap H m = some p) : ownMap G m = some p := by
  unfold ownMap at h ⊢
  split at h
  case h_2 => cases h
  rename_i b v
  cases hb : look H b with
  | none => rw [hb] at h; cases h
  | some k => rw [hb] at h; simp only [hs b k hb]; exact h
theorem arrOf_mono (hs : SubH H G) {b : Nat} {p : List D × List (Nat × Blk)} (h : arrOf H b = some p) : arrOf G b = some p := by
  unfold arrOf at h ⊢
  cases hb : look H b with
  | none => rw [hb] at h; cases h
  | some k => rw [hb] at h; simp only [hs b k hb]; exact h
theorem ownIt_mono (hs : SubH H G) {m : AV} {p : Nat × ByteArray × Nat} (h : ownIt H m = some p) : ownIt G m = some p := by
  unfold ownIt at h ⊢
  split at h
  case h_2 => cases h
  rename_i b v
  cases hb : look H b with
  | none => rw [hb] at h; cases h
  | some k => rw [hb] at h; simp only [hs b k hb]; exact h
theorem amapUpdate_mono (hs : SubH H G) {t : TypeId} {m k x : AV} {r : R} (h : amapUpdate cx sym orc H t m k x = some r) : amapUpdate cx sym orc G t m k x = some r := by
  unfold amapUpdate at h ⊢
  split at h
  case h_2 => cases h
  rename_i hu hom hkv hxd
  simp only [hu, ownMap_mono hs hom, hkv, hxd]; exact h
theorem alookup_mono (hs : SubH H G) {t : TypeId} {m k : AV} {ok : Bool} {r : R} (h : alookup cx sym orc H t m k ok = some r) : alookup cx sym orc G t m k ok = some r := by
  unfold alookup at h ⊢
  split at h
  case h_2 => cases h
  rename_i hu hom hkv
  simp only [hu, ownMap_mono hs hom, hkv]; exact h

theorem aop_mono (hs : SubH H G) {name : Nat} (hn : look G name = none) {o : Oper} {r : R} (h : aop cx sym orc H name ev o = some r) : aop cx sym orc G name ev o = some r := by
  cases hop : o.op with
  | alloc elem =>
    simp only [aop, hop] at h ⊢
    split at h
    case h_2 => cases h
    rename_i z hz _
    simp only [hz, hn]; exact h
  | box elem x =>
    simp only [aop, hop] at h ⊢
    split at h
    case h_2 => cases h
    rename_i cs hcs _
    simp only [hcs, hn]; exact h
  | buildSlice t len parts =>
    simp only [aop, hop] at h ⊢
    cases hpe : ptrElems 0 (parts.toList.map fun p => (p.1, ev p.2)) with
    | none =>
      simp only [hpe] at h ⊢
      split at h
      case h_2 => cases h
      split at h
      case h_2 => cases h
      split at h
      case h_2 => cases h
      rename_i es fs hl
      obtain ⟨h1, h2⟩ := litElems_mono hs _ _ _ _ hl
      simp only [h1]
      rw [freezeAll_mono hs fs h2]
      exact h
    | some l => cases l with
      | nil =>
      simp only [hpe] at h ⊢
      split at h
      case h_2 => cases h
      split at h
      case h_2 => cases h
      split at h
      case h_2 => cases h
      rename_i es fs hl
      obtain ⟨h1, h2⟩ := litElems_mono hs _ _ _ _ hl
      simp only [h1]
      rw [freezeAll_mono hs fs h2]
      exact h
      | cons x xs =>
        simp only [hpe] at h ⊢
        unfold ptrLit at h ⊢
        split at h
        case h_2 => cases h
        rename_i elem hu _
        simp only [hu, hn]; exact h
  | load t a =>
    simp only [aop, hop] at h ⊢
    split at h
    · rename_i s g b ver sz i off hs' hg e
      split at h
      case h_2 => cases h
      rename_i x ob o' hbl
      simp only [hs', hg, unf_ptr hs e hbl, blkLoad_mono hs hbl]; exact h
    · rename_i s g x off hs' hg e
      simp only [hs', hg, unf_dptr hs e]; exact h
    · cases h
  | store t a x => simp only [aop, hop] at h ⊢; exact astore_mono hs h
  | nilCheck x =>
    simp only [aop, hop] at h ⊢
    split at h
    · rename_i b v s i f e
      split at h
      case h_2 => cases h
      rename_i hc
      simp only [e, curr_mono hs hc]; exact h
    · exact h
    · exact h
    · exact h
    · cases h
  | makeSlice t l c =>
    simp only [aop, hop] at h ⊢
    split at h
    case h_2 => cases h
    rename_i elem kn n km m hu el ec hn'
    simp only [hu, el, ec, hn]; exact h
  | slice t x lo hi mx =>
    simp only [aop, hop] at h ⊢
    split at h
    · rename_i b ver sz i off hex
      unfold sliceArr at h ⊢
      split at h
      case h_2 => cases h
      rename_i hao hu
      simp only [arrOf_mono hs hao, hu]; exact h
    · cases hq : ashrink cx sym orc H t (ev x) (lo.map ev) (hi.map ev) (mx.map ev) with
      | some q =>
        rw [hq] at h
        rw [ashrink_mono hs hq]; exact h
      | none =>
        rw [hq] at h
        simp only at h
        cases hq2 : asub cx sym orc H t (ev x) (lo.map ev) (hi.map ev) (mx.map ev) with
        | some q2 =>
          rw [hq2] at h
          rw [ashrink_none2 hs hq hq2, asub_mono hs hq2]; exact h
        | none =>
          rw [hq2] at h
          simp only at h
          rw [ashrink_none hs hq h, asub_none hs hq2 h]
          exact aslice_mono hs h
  | fieldAddr s x f =>
    simp only [aop, hop] at h ⊢
    split at h
    case h_2 => cases h
    split at h
    case h_2 => cases h
    split at h
    · rename_i b v sz i off hz e
      split at h
      case h_2 => cases h
      rename_i hc
      simp only [hz, e, curr_mono hs hc]; exact h
    · exact h
    · cases h
  | indexAddr t x ix =>
    simp only [aop, hop] at h ⊢
    split at h
    case h_2 => cases h
    exact aindexAddr_mono hs h
  | call c =>
    obtain ⟨callee, args, ats⟩ := c
    cases callee with
    | builtin b =>
      simp only [aop, hop] at h ⊢
      exact abuiltin_mono hs hn h (fun x v h1 h2 => (elemsV_none h2).1 h1)
    | _ => simp only [aop, hop] at h; cases h
  | makeMap t q =>
    simp only [aop, hop] at h ⊢
    split at h
    case h_2 => cases h
    simp only [hn]; exact h
  | mapUpdate t m k x => simp only [aop, hop] at h ⊢; exact amapUpdate_mono hs h
  | insert t m k x => simp only [aop, hop] at h ⊢; exact amapUpdate_mono hs h
  | lookup t m k ok => simp only [aop, hop] at h ⊢; exact alookup_mono hs h
  | range t x =>
    simp only [aop, hop] at h ⊢
    unfold arange at h ⊢
    split at h
    case h_2 => cases h
    rename_i hu hxv hl
    simp only [hu, hxv, hn]; exact h
  | next x isS =>
    simp only [aop, hop] at h ⊢
    cases isS with
    | false => cases h
    | true =>
      simp only at h ⊢
      unfold anext at h ⊢
      split at h
      case h_2 => cases h
      rename_i ho
      rw [ownIt_mono hs ho]; exact h
  | _ => simp only [aop, hop] at h ⊢; exact h
end
theorem ptrB_eq {x : AV} {b : Nat} (h : ptrB x = some b) : ∃ v s i o, x = .ptr b v s i o := by
  cases x <;> first | (cases h; exact ⟨_, _, _, _, rfl⟩) | cases h
/-- An address is the same wherever the variable's block has the same version. -/
theorem aop_addr {cx : Cx} {H G : List (Nat × Blk)} {sym : Bool} {orc : List Orc} {ev : Operand → AV} {name b : Nat} {o : Oper} {r : R} (ha : addrOf ev o = some b) (hc : ∀ v, curr H b v = true → curr G b v = true) (h : aop cx sym orc H name ev o = some r) : aop cx sym orc G name ev o = some r := by
  unfold addrOf at ha
  split at ha
  · rename_i s x f hop
    obtain ⟨v, s', i, off, hx⟩ := ptrB_eq ha
    simp only [aop, hop, hx] at h ⊢
    split at h
    case h_2 => cases h
    rename_i fd hfd
    split at h
    case h_2 => cases h
    rename_i n hn
    split at h
    · rename_i e1 e2
      cases e2
      split at h
      case h_2 => cases h
      rename_i hcu
      simp only [hfd, hn, e1, hc _ hcu]; exact h
    · rename_i e1 e2
      cases e2
    · cases h
  · rename_i t x ix hop
    obtain ⟨v, s', i, off, hx⟩ := ptrB_eq ha
    simp only [aop, hop, hx] at h ⊢
    split at h
    case h_2 => cases h
    rename_i k j hix
    have h0 : ∀ {o2 : List Orc} {j : Int} {q : R}, aindexAddr0 cx sym o2 H t (.ptr b v s' i off) j = some q → aindexAddr0 cx sym o2 G t (.ptr b v s' i off) j = some q := by
      intro o2 j q hq
      unfold aindexAddr0 at hq ⊢
      split at hq
      · rename_i len elem hu
        split at hq
        case h_2 => cases hq
        rename_i e1 e2
        simp only at hq ⊢
        split at hq
        case h_2 => cases hq
        rename_i hcu
        simp only [e1, e2, hc _ hcu]; exact hq
      · split at hq
        · cases hq
        · simp only at hq; cases hq
      · cases hq
    unfold aindexAddr at h ⊢
    split at h
    · rename_i k2 r2
      split at h
      case h_2 => cases h
      rename_i q hq
      rw [h0 hq]
      exact h
    · rename_i hno
      exact h0 h
  · cases ha
end Go.SX
