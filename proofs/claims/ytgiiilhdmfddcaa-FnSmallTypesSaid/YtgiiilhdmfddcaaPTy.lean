/- A part of the proof of a statement of this seat: see the text that holds the theorem. No condition. -/
set_option linter.unusedVariables false
set_option linter.all false
/- Types as trees and their texts: plain Lean. -/
set_option linter.unusedSimpArgs false
namespace Go.Sim

/-- A type: a letter; a letter with one part; a letter with two. -/
inductive Ty where
  | k (c : Nat)
  | u (c : Nat) (a : Ty)
  | w (c : Nat) (a b : Ty)
  deriving DecidableEq, Inhabited

namespace Ty
def hd : Ty → Nat | k c => c | u c _ => c | w c _ _ => c
def ps : Ty → List Ty | k _ => [] | u _ a => [a] | w _ a b => [a, b]
def txt : Ty → List Nat
  | k c => [c]
  | u c a => c :: 40 :: (a.txt ++ [41])
  | w c a b => c :: 40 :: (a.txt ++ 44 :: (b.txt ++ [41]))
def size : Ty → Nat | k _ => 1 | u _ a => a.size + 1 | w _ a b => a.size + b.size + 1
end Ty

def isVarN (c : Nat) : Bool := c == 120 || c == 121 || c == 122 || c == 88 || c == 89 || c == 90
def isLeafN (c : Nat) : Bool := c == 105 || c == 98 || c == 117 || isVarN c
def arN (c : Nat) : Int := if isLeafN c then 0 else if c == 108 || c == 109 then 1 else if c == 112 then 2 else -1
namespace Ty
def ok : Ty → Bool
  | k c => isLeafN c
  | u c a => (c == 108 || c == 109) && a.ok
  | w c a b => (c == 112) && a.ok && b.ok
theorem ok_ar {t : Ty} (h : t.ok = true) : arN t.hd = t.ps.length := by
  cases t with
  | k c => simp only [ok] at h; simp [arN, hd, ps, h]
  | u c a => simp only [ok, Bool.and_eq_true, Bool.or_eq_true, beq_iff_eq] at h; rcases h.1 with rfl | rfl <;> rfl
  | w c a b => simp only [ok, Bool.and_eq_true, beq_iff_eq] at h; rcases h.1.1 with rfl; rfl
theorem ok_ps {t : Ty} (h : t.ok = true) : ∀ p ∈ t.ps, p.ok = true := by
  cases t with
  | k c => simp [ps]
  | u c a => simp only [ok, Bool.and_eq_true] at h; simp [ps, h.2]
  | w c a b => simp only [ok, Bool.and_eq_true] at h; simp [ps, h.2, h.1.2]
theorem txt_cons (t : Ty) : ∃ r, t.txt = t.hd :: r := by cases t <;> simp [txt, hd]
theorem txt_ne (t : Ty) : t.txt ≠ [] := by cases t <;> simp [txt]
theorem txt_pos (t : Ty) : 1 ≤ t.txt.length := by have := t.txt_ne; cases h : t.txt <;> simp_all
theorem hd_inj {s t : Ty} {r r' : List Nat} (h : s.txt ++ r = t.txt ++ r') : s.hd = t.hd := by
  obtain ⟨a, ha⟩ := s.txt_cons; obtain ⟨b, hb⟩ := t.txt_cons
  rw [ha, hb] at h; simp at h; exact h.1
/-- Texts of types are prefix-free. -/
theorem txt_inj : ∀ {s t : Ty} {r r' : List Nat}, s.ok = true → t.ok = true → s.txt ++ r = t.txt ++ r' → s = t ∧ r = r' := by
  intro s
  induction s with
  | k c =>
    intro t r r' hs ht h
    have e := hd_inj h
    have h1 := ok_ar hs; have h2 := ok_ar ht
    rw [e, h2] at h1
    cases t with
    | k d => simp [txt] at h; simp [h.1, h.2]
    | u d a => simp [ps] at h1
    | w d a b => simp [ps] at h1
  | u c a ih =>
    intro t r r' hs ht h
    have e := hd_inj h
    have h1 := ok_ar hs; have h2 := ok_ar ht
    rw [e, h2] at h1
    cases t with
    | k d => simp [ps] at h1
    | u d a' =>
      simp only [ok, Bool.and_eq_true] at hs ht
      simp only [txt, List.cons_append, List.append_assoc, List.cons.injEq, true_and] at h
      obtain ⟨rfl, h⟩ := h
      obtain ⟨rfl, h⟩ := ih hs.2 ht.2 h
      simp at h; simp [h]
    | w d a' b' => simp [ps] at h1
  | w c a b iha ihb =>
    intro t r r' hs ht h
    have e := hd_inj h
    have h1 := ok_ar hs; have h2 := ok_ar ht
    rw [e, h2] at h1
    cases t with
    | k d => simp [ps] at h1
    | u d a' => simp [ps] at h1
    | w d a' b' =>
      simp only [ok, Bool.and_eq_true] at hs ht
      simp only [txt, List.cons_append, List.append_assoc, List.cons.injEq, true_and] at h
      obtain ⟨rfl, h⟩ := h
      obtain ⟨rfl, h5⟩ := iha hs.1.2 ht.1.2 h
      simp only [List.cons.injEq, true_and] at h5
      obtain ⟨rfl, h3⟩ := ihb hs.2 ht.2 h5
      simp at h3; simp [h3]
theorem txt_inj' {s t : Ty} (hs : s.ok = true) (ht : t.ok = true) (h : s.txt = t.txt) : s = t :=
  (txt_inj (r := []) (r' := []) hs ht (by simpa using h)).1
end Ty

/-- The parts that were read so far, with the marks ahead of them. -/
def mids : List Ty → List Nat
  | [] => []
  | [a] => 40 :: a.txt
  | a :: b :: _ => 40 :: (a.txt ++ 44 :: b.txt)
/-- The mark ahead of part i. -/
def markN (i : Nat) : Nat := if i = 0 then 40 else 44
/-- A text begins with a type. -/
def Opens (s : List Nat) (t : Ty) (r : List Nat) : Prop := t.ok = true ∧ s = t.txt ++ r
theorem Opens.unique {s : List Nat} {t t' : Ty} {r r' : List Nat} (h : Opens s t r) (h' : Opens s t' r') : t = t' ∧ r = r' :=
  Ty.txt_inj h.1 h'.1 (by rw [← h.2, ← h'.2])
theorem Opens.nil {t : Ty} {r : List Nat} : ¬ Opens [] t r := by
  rintro ⟨_, h⟩; have := t.txt_ne; simp at h; exact this h.1
/-- Of a text that opens with a type of which some parts were read: what comes next. -/
theorem Opens.step {c : Nat} {l : List Ty} {s r : List Nat} {t : Ty} (hl : ∀ p ∈ l, p.ok = true) (h : Opens (c :: (mids l ++ s)) t r) (hn : l.length ≤ t.ps.length) :
    t.hd = c ∧ l = t.ps.take l.length ∧ (l.length < t.ps.length → ∃ p s', s = markN l.length :: s' ∧ ∃ r', Opens s' p r') ∧ (l.length = t.ps.length → s = (if t.ps = [] then r else 41 :: r)) := by
  obtain ⟨ht, h⟩ := h
  match l, hn with
  | [], _ =>
    simp only [mids, List.nil_append] at h
    cases t with
    | k d => simp [Ty.txt] at h; simp [Ty.hd, Ty.ps, h]
    | u d a =>
      simp [Ty.txt] at h; simp only [Ty.ok, Bool.and_eq_true] at ht
      exact ⟨h.1.symm, rfl, fun _ => ⟨a, _, h.2, _, ht.2, rfl⟩, fun e => by simp [Ty.ps] at e⟩
    | w d a b =>
      simp [Ty.txt] at h; simp only [Ty.ok, Bool.and_eq_true] at ht
      exact ⟨h.1.symm, rfl, fun _ => ⟨a, _, h.2, _, ht.1.2, rfl⟩, fun e => by simp [Ty.ps] at e⟩
  | [x], hn =>
    have hx := hl x (by simp)
    cases t with
    | k d => simp [Ty.ps] at hn
    | u d a =>
      simp only [Ty.ok, Bool.and_eq_true] at ht
      simp only [mids, Ty.txt, List.cons_append, List.append_assoc, List.cons.injEq, true_and] at h
      obtain ⟨rfl, h⟩ := h
      obtain ⟨rfl, h2⟩ := Ty.txt_inj hx ht.2 h
      exact ⟨rfl, rfl, fun e => by simp [Ty.ps] at e, fun _ => by simp [Ty.ps, h2]⟩
    | w d a b =>
      simp only [Ty.ok, Bool.and_eq_true] at ht
      simp only [mids, Ty.txt, List.cons_append, List.append_assoc, List.cons.injEq, true_and] at h
      obtain ⟨rfl, h⟩ := h
      obtain ⟨rfl, h2⟩ := Ty.txt_inj hx ht.1.2 h
      exact ⟨rfl, rfl, fun _ => ⟨b, _, h2, _, ht.2, rfl⟩, fun e => by simp [Ty.ps] at e⟩
  | [x, y], hn =>
    have hx := hl x (by simp)
    have hy := hl y (by simp)
    cases t with
    | k d => simp [Ty.ps] at hn
    | u d a => simp [Ty.ps] at hn
    | w d a b =>
      simp only [Ty.ok, Bool.and_eq_true] at ht
      simp only [mids, Ty.txt, List.cons_append, List.append_assoc, List.cons.injEq, true_and] at h
      obtain ⟨rfl, h⟩ := h
      obtain ⟨rfl, h2⟩ := Ty.txt_inj hx ht.1.2 h
      simp only [List.cons.injEq, true_and] at h2
      obtain ⟨rfl, h3⟩ := Ty.txt_inj hy ht.2 h2
      exact ⟨rfl, rfl, fun e => by simp [Ty.ps] at e, fun _ => by simp [Ty.ps, h3]⟩
  | _ :: _ :: _ :: _, hn => cases t <;> simp [Ty.ps] at hn

open Classical in
/-- The type of a text of any length. -/
noncomputable def tyAny (s : List Nat) : Option Ty := if h : ∃ t : Ty, t.ok = true ∧ s = t.txt then some h.choose else none
theorem tyAny_txt {t : Ty} (h : t.ok = true) : tyAny t.txt = some t := by
  have hex : ∃ u : Ty, u.ok = true ∧ t.txt = u.txt := ⟨t, h, rfl⟩
  unfold tyAny
  rw [dif_pos hex]
  exact congrArg some (Ty.txt_inj' h hex.choose_spec.1 hex.choose_spec.2).symm
theorem tyAny_some {s : List Nat} {t : Ty} : tyAny s = some t ↔ t.ok = true ∧ s = t.txt := by
  constructor
  · intro h
    unfold tyAny at h
    split at h
    · rename_i hex
      have e := (Option.some.inj h)
      have := hex.choose_spec
      rw [e] at this; exact this
    · cases h
  · rintro ⟨h, rfl⟩; exact tyAny_txt h
theorem tyAny_none {s : List Nat} : tyAny s = none ↔ ∀ t : Ty, t.ok = true → s ≠ t.txt := by
  constructor
  · intro h t ht e
    rw [e, tyAny_txt ht] at h; cases h
  · intro h
    cases e : tyAny s with
    | none => rfl
    | some t => obtain ⟨h1, h2⟩ := tyAny_some.1 e; exact absurd h2 (h t h1)
/-- The type of a text that is not too long. -/
noncomputable def ofTxt (s : List Nat) : Option Ty := if s.length ≤ 60 then tyAny s else none
theorem ofTxt_some {s : List Nat} {t : Ty} : ofTxt s = some t ↔ t.ok = true ∧ s = t.txt ∧ s.length ≤ 60 := by
  unfold ofTxt
  by_cases h : s.length ≤ 60
  · simp only [h, if_true, and_true]; exact tyAny_some
  · simp [h]
theorem ofTxt_txt {t : Ty} (h : t.ok = true) (hl : t.txt.length ≤ 60) : ofTxt t.txt = some t := ofTxt_some.2 ⟨h, rfl, hl⟩
/-- A text is a type. -/
noncomputable def tyOk (s : List Nat) : Bool := (ofTxt s).isSome
theorem tyOk_iff {s : List Nat} : tyOk s = true ↔ ∃ t : Ty, t.ok = true ∧ s = t.txt ∧ s.length ≤ 60 := by
  unfold tyOk; rw [Option.isSome_iff_exists]; simp only [ofTxt_some]
theorem tyOk_len {s : List Nat} (h : tyOk s = true) : s.length ≤ 60 := by obtain ⟨_, _, _, h⟩ := tyOk_iff.1 h; exact h
theorem tyOk_ne {s : List Nat} (h : tyOk s = true) : s ≠ [] := by obtain ⟨t, _, rfl, _⟩ := tyOk_iff.1 h; exact t.txt_ne

/-- Letters of a type: none of the marks. -/
def isMark (c : Nat) : Bool := c == 40 || c == 41 || c == 44
namespace Ty
def letters : Ty → List Nat | k c => [c] | u c a => c :: a.letters | w c a b => c :: (a.letters ++ b.letters)
theorem letters_len (t : Ty) : t.letters.length = t.size := by induction t <;> simp [letters, size, *]
theorem hd_letter {t : Ty} (h : t.ok = true) : isMark t.hd = false := by
  have := ok_ar h
  cases hm : isMark t.hd with
  | false => rfl
  | true =>
    simp only [isMark, Bool.or_eq_true, beq_iff_eq] at hm
    rcases hm with (e | e) | e <;> rw [e] at this <;> simp [arN, isLeafN, isVarN] at this <;> omega
theorem m40 : isMark 40 = true := rfl
theorem m41 : isMark 41 = true := rfl
theorem m44 : isMark 44 = true := rfl
theorem txt_filter {t : Ty} (h : t.ok = true) : t.txt.filter (fun c => !isMark c) = t.letters := by
  induction t with
  | k c => have := hd_letter h; simp only [hd] at this; simp [txt, letters, this]
  | u c a ih =>
    have := hd_letter h; simp only [hd] at this
    simp only [ok, Bool.and_eq_true] at h
    have h1 := ih h.2
    simp only [txt, letters, List.filter_cons, this, List.filter_append, h1, m40, m41, List.filter_nil]; simp
  | w c a b iha ihb =>
    have := hd_letter h; simp only [hd] at this
    simp only [ok, Bool.and_eq_true] at h
    have h1 := iha h.1.2
    have h2 := ihb h.2
    simp only [txt, letters, List.filter_cons, this, List.filter_append, h1, h2, m40, m41, m44, List.filter_nil]; simp
end Ty
end Go.Sim
