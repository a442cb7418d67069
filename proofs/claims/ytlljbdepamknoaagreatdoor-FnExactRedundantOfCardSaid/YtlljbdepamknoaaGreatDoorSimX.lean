/- A part of the proof of a statement of this seat: see the text that holds the theorem. No condition. -/
import Derived.Test.YtlljbdepamknoaaGreatDoorSimS
import Derived.Lib.Join
import Derived.Carry
import Derived.Lib.Bytealg
import Derived.Lib.Strings
import Derived.Lib.ItoaNum
import Derived.Lib.LaidTab
import Derived.Sort.Grow
import Derived.Deep.Draws
import Derived.Shelf.SlIter.Nil
set_option linter.unusedVariables false
set_option linter.unusedSimpArgs false
set_option linter.all false
set_option linter.unusedSimpArgs false
namespace Go.Sim
open Go Go.RowKit

theorem Yby {α β : Type} (f : α → β) (sep : List α) : ∀ l : List (List α), (sep.map f).intercalate (l.map (List.map f)) = (sep.intercalate l).map f
 | [] => rfl
 | [x] => by simp [List.intercalate]
 | x :: y :: l => by
  have := Yby f sep (y :: l)
  simp only [List.intercalate, List.map_cons, List.intersperse_cons_cons, List.flatten_cons, List.map_append] at this ⊢
  rw [this]
theorem Ykw (b o j : Nat) : (⟨b, o, none⟩ : Addr).add j = ⟨b, o + j, none⟩ := by unfold Addr.add; split <;> simp_all
theorem Zts (l : List UInt8) : bytesOf ⟨l.toArray⟩ = l.map UInt8.toNat := by simp [bytesOf]

section
variable {P : Program} {base : Nat} {w0 : World} {μ : List Pl} {h : Zaa} {w : World}
theorem VRs.strs : ∀ {l : List (List Nat)} {ys : List Value}, VRs μ (Sim.strs l) ys → ∃ xs : List ByteArray, ys = xs.map .string ∧ xs.map bytesOf = l
 | [], _, .nil => ⟨[], rfl, rfl⟩
 | s :: l, _, .cons a b => by
  obtain ⟨xs, rfl, hx⟩ := VRs.strs b
  cases a with
  | str s => exact ⟨s :: xs, rfl, by simp [hx]⟩

theorem Zae.join {n : FuncId} (able : ∃ fn, P.funcs[n]? = some fn ∧ fn.body.isSome = true ∧ (fn.name == "runtime.NumGoroutine") = false)
  (hnone : ∀ (a : Option Addr) (c : Nat) (sep : ByteArray) (w : World), Calls P n #[.slice a 0 c, .string sep] w fun e w' => e = .returned (.string ⟨#[]⟩) ∧ w' = w)
  (hsome : ∀ (bk o c : Nat) (xs : List ByteArray) (sep : ByteArray) (w : World), (∀ (j : Nat) x, xs[j]? = some x → w.cell? ⟨bk, o + j, none⟩ = some (.string x)) → bk < w.heap.size → xs.length ≤ 140737488355328 → xs.length ≤ c →
   (Lib.join (xs.map (·.data.toList)) sep.data.toList).length ≤ 140737488355328 →
   Calls P n #[.slice (some ⟨bk, o, none⟩) xs.length c, .string sep] w fun e w' => e = .returned (.string ⟨(Lib.join (xs.map (·.data.toList)) sep.data.toList).toArray⟩) ∧ Below w.heap.size w w')
  {a : Pt} {m c : Nat} {ex : Bool} {l : List (List Nat)} {sep : List Nat} (r : Row h.length h a m (strs l)) (hm : m ≤ 140737488355328) (hl : (sep.intercalate l).length ≤ 140737488355328) :
  Zae P n [.slice a m c ex, .str sep] h fun v h' => v = .str (sep.intercalate l) ∧ h' = h := by
 refine ⟨able, fun base w0 μ w xs rel hx => ?_⟩
 have hll : l.length = m := by simpa using r.1
 match xs, hx with
 | ⟨[x1, x2]⟩, .cons h1 (.cons h2 .nil) =>
  obtain ⟨_, am, capm, rfl, hrow⟩ := Zvf rel h1 r.rowOf
  cases h2 with
  | str sb =>
  rcases hrow with h0 | ⟨ad, rfl, ys, hys, hcell⟩
  ·subst h0
   have : l = [] := List.eq_nil_of_length_eq_zero hll
   subst this
   refine (hnone am capm sb w).mono ?_
   rintro e w' ⟨rfl, rfl⟩
   exact ⟨_, μ, .str [], h, rfl, Ext.refl _, rel, (by have := VR.str (μ := μ) ⟨#[]⟩; simpa [bytesOf] using this), rfl, rfl⟩
  ·obtain ⟨bs, rfl, hbs⟩ := hys.strs
   by_cases h0 : m = 0
   ·subst h0
    have : l = [] := List.eq_nil_of_length_eq_zero hll
    subst this
    refine (hnone (some ad) capm sb w).mono ?_
    rintro e w' ⟨rfl, rfl⟩
    exact ⟨_, μ, .str [], h, rfl, Ext.refl _, rel, (by have := VR.str (μ := μ) ⟨#[]⟩; simpa [bytesOf] using this), rfl, rfl⟩
   ·have hbl : bs.length = m := by rw [← hll, ← hbs]; simp
    have hc0 := hcell 0 (.string (bs[0]'(by omega))) (by rw [List.getElem?_map, List.getElem?_eq_getElem (by omega)]; rfl)
    have hsp : ad.spot = none ∧ ad.block < w.heap.size := by
     have : ad.add 0 = ad := by simp [Addr.add]
     rw [this] at hc0
     unfold World.cell? at hc0
     split at hc0
     ·rename_i C el fr hb
      split at hc0
      ·cases hc0
      ·rename_i hsp
       exact ⟨by simpa using hsp, (Array.getElem?_eq_some_iff.1 hb).1⟩
     ·cases hc0
    have had : ad = ⟨ad.block, ad.off, none⟩ := by rw [← hsp.1]
    have hcap : m ≤ capm := by cases h1 <;> omega
    have hjoin : (Lib.join (bs.map (·.data.toList)) sb.data.toList).map UInt8.toNat = (bytesOf sb).intercalate l := by
     unfold Lib.join
     rw [← Yby]
     congr 1
     rw [← hbs]; simp [bytesOf]
    have hjl : (Lib.join (bs.map (·.data.toList)) sb.data.toList).length ≤ 140737488355328 := by
     have := congrArg List.length hjoin
     rw [List.length_map] at this
     omega
    have key := hsome ad.block ad.off capm bs sb w (fun j x hj => by
     have := hcell j (.string x) (by rw [List.getElem?_map, hj]; rfl)
     rw [had] at this
     rwa [Ykw] at this) hsp.2 (by omega) (by omega) hjl
    rw [hbl, ← had] at key
    refine key.mono ?_
    rintro e w' ⟨rfl, hb⟩
    refine ⟨_, μ, .str ((bytesOf sb).intercalate l), h, rfl, Ext.refl _, rel.grow hb, ?_, rfl, rfl⟩
    have := VR.str (μ := μ) ⟨(Lib.join (bs.map (·.data.toList)) sb.data.toList).toArray⟩
    rw [Zts, hjoin] at this
    exact this
end
end Go.Sim

set_option linter.unusedSimpArgs false
namespace Go.Sim
open Go Go.RowKit

theorem trodAll_below {H : Type} {enc : TypeId × Value → H} {P : Program} (hl : laidOutB P = true) {W W' : World} (hb : Below W.heap.size W W') : ∀ {ts : List TypeId} {vs : List Value} {ds : List (DataW H)} {ps : List MemPlace},
  (∀ t ∈ ts, P.readableRec t = true ∧ t < P.types.size) → DataW.TrodAll enc P W 0 (fun _ => true) true ts vs ds ps → DataW.TrodAll enc P W' 0 (fun b => decide (b < W.heap.size)) true ts vs ds ps
 | [], [], [], _, _, h => h
 | t :: ts, v :: vs, d :: ds, ps, ht, ⟨p, q, h1, h2, e⟩ => by
  have h1' := h1
  obtain ⟨fuel, hf⟩ := h1'
  exact ⟨p, q, Below.trod hl (ht t (by simp)).1 (ht t (by simp)).2 h1 hb (DataW.trod_lt _ _ _ _ hf), trodAll_below hl hb (fun t' h' => ht t' (by simp [h'])) h2, e⟩
 | [], _ :: _, _, _, _, h => by simp [DataW.TrodAll] at h
 | [], [], _ :: _, _, _, h => by simp [DataW.TrodAll] at h
 | _ :: _, [], _, _, _, h => by simp [DataW.TrodAll] at h
 | _ :: _, _ :: _, [], _, _, h => by simp [DataW.TrodAll] at h

end Go.Sim

set_option linter.unusedSimpArgs false
namespace Go.Sim
open Go Go.RowKit

def Ztn : List Nat → Nat → Int
 | [], _ => -1
 | b :: l, c => if b == c then 0 else if Ztn l c == -1 then -1 else Ztn l c + 1
theorem Ylz (l : List Nat) (c : Nat) : -1 ≤ Ztn l c := by
 induction l with
 | nil => simp [Ztn]
 | cons b l ih => simp only [Ztn]; split <;> try split
                  all_goals omega
theorem Yab (l : List Nat) (c : Nat) : 0 ≤ Ztn l c ↔ c ∈ l := by
 induction l with
 | nil => simp [Ztn]
 | cons b l ih =>
  have := Ylz l c
  simp only [Ztn, List.mem_cons]
  by_cases hb : b = c
  ·simp [hb]
  ·have hb' : c ≠ b := fun e => hb e.symm
   simp only [beq_iff_eq, hb, hb', if_false, false_or]
   rw [← ih]
   by_cases h1 : Ztn l c = -1
   ·simp [h1]
   ·simp only [h1, if_false]; omega
theorem Ypn (l : List Nat) (c : Nat) : Ztn l c < 0 ↔ c ∉ l := by rw [← Yab]; omega
theorem Zxo (l : List UInt8) (c : UInt8) : Lib.indexByte l c = Ztn (l.map UInt8.toNat) c.toNat := by
 induction l with
 | nil => rfl
 | cons b l ih =>
  simp only [Lib.indexByte, Ztn, List.map_cons, ih]
  have : (b == c) = (b.toNat == c.toNat) := by
   rw [Bool.eq_iff_iff]; simp [UInt8.toNat_inj]
  rw [this]
theorem Zxe {s : ByteArray} {c : Nat} (h : bytesOf s = [c]) : ∃ b : UInt8, s = ⟨#[b]⟩ ∧ b.toNat = c := by
 obtain ⟨⟨l⟩⟩ := s
 simp [bytesOf] at h
 match l, h with
 | [b], h => simp at h; exact ⟨b, rfl, h⟩
theorem Zru : ∀ (p s : List UInt8), (p.map UInt8.toNat).isPrefixOf (s.map UInt8.toNat) = p.isPrefixOf s
 | [], _ => by simp
 | a :: p, [] => by simp
 | a :: p, b :: s => by
  simp only [List.map_cons, List.isPrefixOf_cons₂, Zru p s]
  congr 1
  rw [Bool.eq_iff_iff]; simp [UInt8.toNat_inj]
section
variable {P : Program} {h : Zaa}
theorem Zae.plain {n : FuncId} {args : List Zam} (v0 : Zam) (able : ∃ fn, P.funcs[n]? = some fn ∧ fn.body.isSome = true ∧ (fn.name == "runtime.NumGoroutine") = false)
  (hc : ∀ (μ : List Pl) (xs : Array Value) (w : World), VRs μ args xs.toList → Calls P n xs w fun e w' => ∃ x, e = .returned x ∧ Below w.heap.size w w' ∧ VR μ v0 x) :
  Zae P n args h fun v h' => v = v0 ∧ h' = h := by
 refine ⟨able, fun base w0 μ w xs rel hx => (hc μ xs w hx).mono ?_⟩
 rintro e w' ⟨x, rfl, hb, hv⟩
 exact ⟨x, μ, v0, h, rfl, Ext.refl _, rel.grow hb, hv, rfl, rfl⟩
theorem Zae.contains1 {n : FuncId} (able : ∃ fn, P.funcs[n]? = some fn ∧ fn.body.isSome = true ∧ (fn.name == "runtime.NumGoroutine") = false)
  (hc : ∀ (s : ByteArray) (c : UInt8) (w : World), Calls P n #[.string s, .string ⟨#[c]⟩] w fun e w' => e = .returned (.bool (decide (0 ≤ Lib.indexByte s.data.toList c))) ∧ w' = w) {s : List Nat} {c : Nat} :
  Zae P n [.str s, .str [c]] h fun v h' => v = .bool (decide (c ∈ s)) ∧ h' = h := by
 refine Zae.plain _ able fun μ xs w hx => ?_
 match xs, hx with
 | ⟨[x1, x2]⟩, .cons h1 (.cons h2 .nil) =>
  cases h1 with
  | str s =>
  generalize ht : [c] = t at h2
  cases h2 with
  | str t =>
  obtain ⟨b, rfl, rfl⟩ := Zxe ht.symm
  refine (hc s b w).mono ?_
  rintro e w' ⟨rfl, rfl⟩
  refine ⟨_, rfl, Below.refl _ _, ?_⟩
  rw [Zxo]
  have : decide (0 ≤ Ztn (s.data.toList.map UInt8.toNat) b.toNat) = decide (b.toNat ∈ bytesOf s) := by
   rw [decide_eq_decide]; exact Yab _ _
  rw [this]; exact .bool _
theorem Zae.hasPrefix {n : FuncId} (able : ∃ fn, P.funcs[n]? = some fn ∧ fn.body.isSome = true ∧ (fn.name == "runtime.NumGoroutine") = false)
  (hc : ∀ (s p : ByteArray) (w : World), Calls P n #[.string s, .string p] w fun e w' => e = .returned (.bool (Lib.hasPrefix s.data.toList p.data.toList)) ∧ w' = w) {s p : List Nat} :
  Zae P n [.str s, .str p] h fun v h' => v = .bool (p.isPrefixOf s) ∧ h' = h := by
 refine Zae.plain _ able fun μ xs w hx => ?_
 match xs, hx with
 | ⟨[x1, x2]⟩, .cons h1 (.cons h2 .nil) =>
  cases h1 with
  | str s =>
  cases h2 with
  | str t =>
  refine (hc s t w).mono ?_
  rintro e w' ⟨rfl, rfl⟩
  refine ⟨_, rfl, Below.refl _ _, ?_⟩
  have : Lib.hasPrefix s.data.toList t.data.toList = (bytesOf t).isPrefixOf (bytesOf s) := by unfold Lib.hasPrefix bytesOf; rw [Zru]
  rw [this]; exact .bool _
def Ydh (u : Nat) : List Nat := (Lib.decDigits u).map UInt8.toNat
def Yef (n : Int) : List Nat := (Lib.itoa n).map UInt8.toNat
theorem Zae.itoaSmall {n : FuncId} (able : ∃ fn, P.funcs[n]? = some fn ∧ fn.body.isSome = true ∧ (fn.name == "runtime.NumGoroutine") = false)
  (hc : ∀ (i : Nat), i < 100 → ∀ (w : World), Calls P n #[.int .i64 i] w fun e w' => e = .returned (.string ⟨(Lib.decDigits i).toArray⟩) ∧ w' = w) {i : Nat} (hi : i < 100) :
  Zae P n [.int .i64 i] h fun v h' => v = .str (Ydh i) ∧ h' = h := by
 refine Zae.plain _ able fun μ xs w hx => ?_
 match xs, hx with
 | ⟨[x1]⟩, .cons h1 .nil =>
  generalize ht : (i : Int) = z at h1
  cases h1 with
  | int k z =>
  subst ht
  refine (hc i hi w).mono ?_
  rintro e w' ⟨rfl, rfl⟩
  refine ⟨_, rfl, Below.refl _ _, ?_⟩
  have := VR.str (μ := μ) ⟨(Lib.decDigits i).toArray⟩
  rw [Zts] at this; exact this
def Ysu (P : Program) : Zco := .amb fun base w0 => ∀ w, Below base w0 w → Lib.TabIs P w "internal/strconv.uint64pow10" .u64 Lib.pow10Tab
theorem Zae.itoa {n : FuncId} (able : ∃ fn, P.funcs[n]? = some fn ∧ fn.body.isSome = true ∧ (fn.name == "runtime.NumGoroutine") = false)
  (hc : ∀ (z : Int), -9223372036854775808 ≤ z → z ≤ 9223372036854775807 → ∀ (w : World), Lib.TabIs P w "internal/strconv.uint64pow10" .u64 Lib.pow10Tab → Calls P n #[.int .i64 z] w fun e w' => e = .returned (.string ⟨(Lib.itoa z).toArray⟩) ∧ ∃ k os, w' = Go.Sort.grow (w.drewN k) os)
  {k : Nat} (hk : h[k]? = some (Ysu P)) {z : Int} (h0 : -9223372036854775808 ≤ z) (h1 : z ≤ 9223372036854775807) :
  Zae P n [.int .i64 z] h fun v h' => v = .str (Yef z) ∧ h' = h := by
 refine ⟨able, fun base w0 μ w xs rel hx => ?_⟩
 match xs, hx with
 | ⟨[x1]⟩, .cons hx1 .nil =>
  cases hx1
  have hlt : k < μ.length := by rw [rel.len]; exact (List.getElem?_eq_some_iff.1 hk).1
  have ham := rel.obj k _ hk _ (List.getElem?_eq_getElem hlt)
  refine (hc z h0 h1 w (ham w rel.below)).mono ?_
  rintro e w' ⟨rfl, q, os, rfl⟩
  refine ⟨_, μ, .str (Yef z), h, rfl, Ext.refl _, rel.grow ⟨rfl, rfl, rfl, by simp [Go.Sort.grow, World.drewN], fun j hj => ?_⟩, ?_, rfl, rfl⟩
  ·simp only [Go.Sort.grow, World.drewN]
   rw [Array.getElem?_append_left hj]
  ·have := VR.str (μ := μ) ⟨(Lib.itoa z).toArray⟩
   rw [Zts] at this; exact this
end
end Go.Sim


set_option linter.unusedSimpArgs false
namespace Go.Sim
open Go Go.RowKit

section
variable {P : Program} {h : Zaa}
theorem Zae.keys {n g : FuncId} {M : TypeId} (able : ∃ fn, P.funcs[n]? = some fn ∧ fn.body.isSome = true ∧ (fn.name == "runtime.NumGoroutine") = false)
  (hc : ∀ (mb : Option Nat) (W : World), Calls P n #[.map mb] W fun e w' => e = .returned (.func (.func g) #[] #[.pointer (some ⟨W.heap.size, 0, none⟩)]) ∧ w' = W.alloc (.cells #[.map mb] M)) {m : Option Nat} :
  Zae P n [.map m] h fun v h' => v = .fn g [.ptr (some (h.length, 0))] ∧ h' = h ++ [.cells M [.map m] false] := by
 refine ⟨able, fun base w0 μ w xs rel hx => ?_⟩
 match xs, hx with
 | ⟨[x1]⟩, .cons hx1 .nil =>
  have key : ∀ mb, VR μ (.map m) (.map mb) → Calls P n #[.map mb] w fun e w' => ∃ x μ' v h', e = .returned x ∧ Ext μ μ' ∧ Rel P base w0 μ' h' w' ∧ VR μ' v x ∧ v = .fn g [.ptr (some (h.length, 0))] ∧ h' = h ++ [.cells M [.map m] false] := by
   intro mb hv
   refine (hc mb w).mono ?_
   rintro e w' ⟨rfl, rfl⟩
   have r' := rel.newRow0 (t := M) (cs := [.map m]) (C := #[.map mb]) (by simpa using VRs.cons hv .nil)
   refine ⟨_, _, _, _, rfl, Ext.app _ _, r', ?_, rfl, rfl⟩
   refine .fn (.cons ?_ .nil)
   exact .ptr (e := ⟨w.heap.size, 0, true, 1, P.cellsOf M⟩) (o := 0) (by simpa using rel.last _)
  cases hx1 with
  | map0 => exact key none .map0
  | map hi => exact key _ (.map hi)
theorem Yte {a b : UInt8} (h : ([a] : List UInt8) ≤ [b]) : a.toNat ≤ b.toNat := by
 have h1 : ¬ ([b] : List UInt8) < [a] := h
 rw [List.cons_lt_cons_iff] at h1
 have h2 : ¬ b < a := fun e => h1 (.inl e)
 have : ¬ b.toNat < a.toNat := fun e => h2 (UInt8.lt_iff_toNat_lt.2 e)
 omega
theorem VRs.ones {μ : List Pl} : ∀ {vs : List Nat} {xs : List Value}, VRs μ (vs.map fun v => .str [v]) xs → ∃ bs : List UInt8, bs.map UInt8.toNat = vs ∧ xs = bs.map fun b => .string ⟨#[b]⟩
 | [], [], _ => ⟨[], rfl, rfl⟩
 | [], _ :: _, h => by cases h
 | v :: vs, [], h => by cases h
 | v :: vs, x :: xs, h => by
  simp only [List.map_cons] at h
  cases h with
  | cons h1 h2 =>
  generalize ht : [v] = t at h1
  cases h1 with
  | str s =>
  obtain ⟨b, rfl, rfl⟩ := Zxe ht.symm
  obtain ⟨bs, rfl, rfl⟩ := VRs.ones h2
  exact ⟨b :: bs, rfl, rfl⟩
theorem VRs.ones2 {μ : List Pl} (bs : List UInt8) : VRs μ ((bs.map UInt8.toNat).map fun v => .str [v]) (bs.map fun b => .string ⟨#[b]⟩) := by
 induction bs with
 | nil => exact .nil
 | cons b bs ih =>
  simp only [List.map_cons]
  refine .cons ?_ ih
  have := VR.str (μ := μ) ⟨#[b]⟩
  simpa [bytesOf] using this
theorem Yra {bs : List UInt8} {ss : List (List UInt8)} (hp : ss.Perm (bs.map fun b => [b])) : ∃ us : List UInt8, ss = us.map (fun b => [b]) ∧ us.Perm bs := by
 have hall : ∀ s ∈ ss, ∃ b, s = [b] := fun s hs => by
  obtain ⟨b, _, rfl⟩ := List.mem_map.1 (hp.mem_iff.1 hs); exact ⟨b, rfl⟩
 have hus : ss = (ss.map fun s => s.headD 0).map (fun b => [b]) := by
  rw [List.map_map]
  conv => lhs; rw [← List.map_id ss]
  apply List.map_congr_left
  intro s hs
  obtain ⟨b, rfl⟩ := hall s hs
  rfl
 refine ⟨ss.map fun s => s.headD 0, hus, ?_⟩
 have := hp.map fun s => s.headD 0
 simpa [List.map_map, Function.comp_def] using this
theorem Zae.sortedKeys {n g : FuncId} {M K : TypeId} (hK : P.underlying K = some .string) (hcK : P.cellsOf K = 1) (able : ∃ fn, P.funcs[n]? = some fn ∧ fn.body.isSome = true ∧ (fn.name == "runtime.NumGoroutine") = false)
  (hc : ∀ (Bm b nn : Nat) (D0 : DataW Unit) (R : Value → Option (DataW Unit × List MemPlace)) (w : World), w.ownsMap P K R b nn D0 → Bm < w.heap.size → w.cell? ⟨Bm, 0, none⟩ = some (.map (some b)) → Maps.size D0 ≤ maxLen → Maps.size D0 * 16 ≤ 140737488355328 →
   Calls P n #[.func (.func g) #[] #[.pointer (some ⟨Bm, 0, none⟩)]] w fun e w' => ∃ (v : Value) (ss : List (List UInt8)), e = .returned v ∧ ss.Perm (strKeys D0) ∧
    w'.ownsRow w.heap.size K 1 v ss.length ((ss.mergeSort (fun x y => decide (x ≤ y))).map Go.Proofs.encStr) ∧ (v = .slice none 0 0 ↔ ss = []) ∧ Below w.heap.size w w')
  {i m : Nat} {es : List ME} {clk : Nat} (hi : h[i]? = some (.cells M [.map (some m)] false)) (hm : h[m]? = some (.map es clk)) {vs : List Nat} (hks : es.map (·.1) = vs.map fun v => .str [v]) (nd : vs.Nodup) (born : (es.map (·.2.2)).Nodup) (lt : ∀ e ∈ es, e.2.2 < clk) (hl : es.length ≤ 1048576) :
  Zae P n [.fn g [.ptr (some (i, 0))]] h fun v h' => ∃ us : List Nat, us.Perm vs ∧ us.Pairwise (· ≤ ·) ∧ ((us = [] ∧ v = .slice none 0 0 true ∧ h' = h) ∨ (∃ c, v = .slice (some (h.length, 0)) us.length c false ∧ us.length ≤ c ∧ h' = h ++ [.cells K (us.map fun v => .str [v]) false])) := by
 refine ⟨able, fun base w0 μ w xs rel hx => ?_⟩
 match xs, hx with
 | ⟨[x1]⟩, .cons hx1 .nil =>
  generalize hf : Zam.fn g [.ptr (some (i, 0))] = f at hx1
  cases hx1 <;> try (cases hf; done)
  rename_i f' caps ys hcaps
  cases hf
  obtain ⟨ys⟩ := ys
  match ys, hcaps with
  | [y], .cons hy .nil =>
  generalize hp : (Zam.ptr (some (i, 0))) = p at hy
  cases hy <;> try (cases hp; done)
  rename_i i' o' e hei
  cases hp
  obtain ⟨C, el, fr, hC, hvs, hown⟩ := rel.obj i _ hi e hei
  simp only [Bool.false_eq_true, if_false] at hown
  obtain ⟨ho1, ho0, rfl, rfl, hn, hcz, hbase⟩ := hown
  rw [ho0, List.drop_zero] at hvs
  simp only [List.length_cons, List.length_nil] at hvs
  have hC0 : ∃ x r, C.toList = x :: r ∧ VR μ (.map (some m)) x := by
   match hCl : C.toList, hvs with
   | x :: r, hv => simp only [List.take_succ_cons] at hv; cases hv with | cons a b => exact ⟨x, r, rfl, a⟩
   | [], hv => simp at hv; cases hv
  obtain ⟨x, r, hCl, hvx⟩ := hC0
  generalize hmm : Zam.map (some m) = mm at hvx
  cases hvx <;> try (cases hmm; done)
  rename_i m' em hem
  cases hmm
  obtain ⟨hbm, ents, hents, hk1, hk2, hk3⟩ := rel.obj m _ hm em hem
  rw [hks] at hk1
  obtain ⟨bs, rfl, hkeys⟩ := hk1.ones
  have hlen : ents.size = es.length := by have := congrArg List.length hk3; simp at this; exact this.symm
  have hel : w.cell? ⟨e.b, 0, none⟩ = some (.map (some em.b)) := by
   have : C[0]? = some (.map (some em.b)) := by rw [← Array.getElem?_toList, hCl]; rfl
   simp [World.cell?, hC, this]
  have hkey : ∀ y ∈ ents.toList, ∃ b : UInt8, y.key = .string ⟨#[b]⟩ := fun y hy => by
   have : y.key ∈ ents.toList.map (·.key) := List.mem_map.2 ⟨y, hy, rfl⟩
   rw [hkeys] at this
   obtain ⟨b, _, hb⟩ := List.mem_map.1 this
   exact ⟨b, hb.symm⟩
  have hko : ∀ b : UInt8, keyOf P K (.string ⟨#[b]⟩) = some (.string [b]) := fun b => by
   simp [keyOf, hK, mapKey, maxLen]; exact if_pos (by show (1 : Nat) ≤ _; decide)
  let R : Value → Option (DataW Unit × List MemPlace) := fun _ => some (.nil, [])
  have hrg : ents.toList.map (fun y => strOf (WideElems.rg P K R y).1) = bs.map fun b => [b] := by
   have : ents.toList.map (fun y => strOf (WideElems.rg P K R y).1) = (ents.toList.map (·.key)).map fun k => match keyOf P K k with | some l => strOf l | none => [] := by
    rw [List.map_map]
    apply List.map_congr_left
    intro y hy
    obtain ⟨b, hb⟩ := hkey y hy
    simp [WideElems.rg, WideElems.rd, hb, hko, R, strOf]
   rw [this, hkeys, List.map_map]
   apply List.map_congr_left
   intro b _
   simp [hko, strOf]
  have hnb : bs.Nodup := List.Pairwise.of_map (R := fun a b : UInt8 => a ≠ b) UInt8.toNat (fun a b h e => h (by rw [e])) nd
  have hfit : WideElems.Fit P K R ents clk := by
   refine ⟨by rw [hlen]; exact Nat.le_trans hl (by decide), ⟨?_, by rw [← hk3]; exact born, ?_⟩, ?_⟩
   ·intro y hy
    have : y.born ∈ ents.toList.map (·.born) := List.mem_map.2 ⟨y, hy, rfl⟩
    rw [← hk3] at this
    obtain ⟨e', he', hb⟩ := List.mem_map.1 this
    rw [← hb]; exact lt e' he'
   ·rw [hkeys]
    refine List.Pairwise.map _ ?_ hnb
    intro a b hab e
    exact hab (by simpa using e)
   ·intro y hy
    obtain ⟨b, hb⟩ := hkey y hy
    exact ⟨_, by simp [WideElems.rd, hb, hko, R]; rfl⟩
  have hps := WideShapes.sorted_perm (ents.toList.map (WideElems.rg P K R))
  have hsz : Maps.size (DataW.map ((ents.toList.map (WideElems.rg P K R)).foldr DataW.insert [])) = es.length := by
   show List.length _ = _
   rw [hps.length_eq, List.length_map, Array.length_toList, hlen]
  show Calls P n #[.func (.func g) #[] #[.pointer (some ⟨e.b, e.o + 0, none⟩)]] w _
  rw [show e.o + 0 = 0 by omega]
  refine (hc e.b em.b ents.size _ R w ⟨ents, clk, hents, hfit, Nat.le_refl _, rfl⟩ (Array.getElem?_eq_some_iff.1 hC).1 hel (by rw [hsz]; exact Nat.le_trans hl (by decide)) (by rw [hsz]; omega)).mono ?_
  rintro ee w' ⟨v, ss, rfl, hperm, hrow, hnil, hb⟩
  have hperm2 : ss.Perm (bs.map fun b => [b]) := by
   refine hperm.trans ?_
   show (List.map (fun p : Lit × DataW Unit => strOf p.1) _).Perm _
   rw [← hrg]
   have := hps.map fun p : Lit × DataW Unit => strOf p.1
   simpa [List.map_map, Function.comp_def] using this
  have tr : ∀ a b c : List UInt8, decide (a ≤ b) = true → decide (b ≤ c) = true → decide (a ≤ c) = true := fun a b c h1 h2 => by simp only [decide_eq_true_eq] at *; exact List.le_trans h1 h2
  have to : ∀ a b : List UInt8, (decide (a ≤ b) || decide (b ≤ a)) = true := fun a b => by simp only [Bool.or_eq_true, decide_eq_true_eq]; exact List.le_total a b
  have hsrt := List.pairwise_mergeSort tr to ss
  have hpm := List.mergeSort_perm ss (fun x y => decide (x ≤ y))
  obtain ⟨us, hus, hup⟩ := Yra (hpm.trans hperm2)
  rw [hus] at hrow hsrt
  have hul : us.length = ss.length := by have := hpm.length_eq; rw [hus] at this; simpa using this
  have hsn : (us.map UInt8.toNat).Pairwise (· ≤ ·) := by
   rw [List.pairwise_map] at hsrt ⊢
   exact hsrt.imp fun {a b} h => Yte (of_decide_eq_true h)
  have henc : (us.map (fun b => [b])).map Go.Proofs.encStr = us.map fun b => .string ⟨#[b]⟩ := by
   rw [List.map_map]; rfl
  rw [henc] at hrow
  obtain ⟨_, hrow⟩ := hrow
  rcases hrow with ⟨rfl, h0⟩ | ⟨gb, cap, cur, rfl, hg1, hg2, hg3, hg4, hg5, hg6⟩
  ·have : us = [] := List.eq_nil_of_length_eq_zero (by omega)
   subst this
   exact ⟨_, μ, _, h, rfl, Ext.refl _, rel.grow hb, .slice0, [], by simpa using hup.map UInt8.toNat, List.Pairwise.nil, .inl ⟨rfl, rfl, rfl⟩⟩
  ·have hpl : (us.map fun b => Zam.str [b.toNat]).length = us.length := by simp
   have r' := rel.new hb ⟨gb, 0, true, cur.size, P.cellsOf K⟩ (.cells K (us.map fun b => Zam.str [b.toNat]) false) hg1 (by
    refine ⟨cur, K, (0, 0), hg2, ?_, ?_⟩
    ·rw [List.drop_zero, hpl, hul, ← Nat.mul_one ss.length, hg6]
     simpa [List.map_map, Function.comp_def] using VRs.ones2 us
    ·simp only [Bool.false_eq_true, if_false]
     exact ⟨trivial, trivial, trivial, trivial, trivial, trivial, Nat.le_trans rel.size hg1⟩)
   refine ⟨_, _, .slice (some (h.length, 0)) us.length us.length false, _, rfl, Ext.app _ _, r', ?_, us.map UInt8.toNat, hup.map _, hsn, .inr ⟨us.length, by simp, by simp, by simp [List.map_map, Function.comp_def]⟩⟩
   rw [← hul]
   refine .slice (e := ⟨gb, 0, true, cur.size, P.cellsOf K⟩) (o := 0) (rel.last _) (Nat.le_refl _) (by omega) (fun h => by cases h) (fun _ _ => ?_)
   show cap * P.cellsOf K ≤ cur.size
   rw [hcK]; omega
end
end Go.Sim
