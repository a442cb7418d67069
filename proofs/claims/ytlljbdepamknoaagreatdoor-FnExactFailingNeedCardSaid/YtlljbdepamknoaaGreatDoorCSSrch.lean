/- A part of the proof of a statement of this seat: see the text that holds the theorem. No condition. -/
import Derived.Test.YtlljbdepamknoaaGreatDoorNm
import Derived.Test.YtlljbdepamknoaaGreatDoorCSup2
import Derived.Test.YtlljbdepamknoaaGreatDoorCVars
import Derived.Test.YtlljbdepamknoaaGreatDoorPTCSApply2
import Derived.Test.YtlljbdepamknoaaGreatDoorPTCSrch
import Derived.Test.YtlljbdepamknoaaGreatDoorCTy
set_option linter.unusedVariables false
set_option linter.unusedSimpArgs false
set_option linter.all false
set_option linter.unusedVariables false
set_option linter.unusedSimpArgs false
set_option maxRecDepth 20000
namespace Go.Sim
open Go Go.RowKit

structure Ylm (b : Nat) (h : Zaa) (a : Pt) (n c : Nat) (l : List Nd) : Prop where
  vec : Vec Zab h a n c (Zeg eP l)
  len : l.length = n
  low : ∀ i, a = some (i, 0) → b ≤ i
theorem Ylm.row {b : Nat} {h : Zaa} {a : Pt} {n c : Nat} {l : List Nd} (f : Ylm b h a n c l) : Row h.length h a (n * 2) (Zeg eP l) := f.vec.row (by rw [Zbb Zdd, f.len])
theorem Ylm.same {b : Nat} {h h' : Zaa} {a : Pt} {n c : Nat} {l : List Nd} (f : Ylm b h a n c l) (s : Zbd h.length h h') : Ylm b h' a n c l := ⟨f.vec.same s, f.len, f.low⟩
def But (a : Pt) (h h' : Zaa) : Prop := h.length ≤ h'.length ∧ ∀ j, j < h.length → (∀ i, a = some (i, 0) → j ≠ i) → h'[j]? = h[j]?
theorem But.of {a : Pt} {h h' : Zaa} (s : Zbd h.length h h') : But a h h' := ⟨s.le, fun j hj _ => s.eq j hj⟩
theorem But.below {a : Pt} {b : Nat} {h h' : Zaa} (s : But a h h') (hb : b ≤ h.length) (hl : ∀ i, a = some (i, 0) → b ≤ i) : Zbd b h h' := ⟨s.1, fun j hj => s.2 j (by omega) fun i hi => by have := hl i hi; omega⟩
end Go.Sim

set_option linter.unusedSimpArgs false
set_option linter.unusedVariables false
namespace Go.Sim

structure Wk where
  cand : Nd → List Int
  needs : Int → List Nat → Option (List Nd)
  most : List Int → Int
inductive Fnd where
  | ok (s : List Nat)
  | no (why : List Nat) (n : Nd)
def Ykr (i : Nat) : Nat := if i = 0 then 40 else 44
def Ynp : List Nat := [108, 111, 110, 103]
def Ymu : List Nat := [100, 101, 101, 112]
def Yko : List Nat := [110, 111, 110, 101]
def Zxs : List Nat := [109, 97, 110, 121]
def Ysl : List Nat := [98, 105, 103]
def Zui : List Nat := [119, 114, 111, 110, 103]
def Zgj (k : Wk) (sp : Bool) (n : Nd) : Int × List Nat :=
  match k.cand n with
  | [] => (-1, Yko)
  | [x] => (x, [])
  | l => if sp && decide (0 ≤ k.most l) then (k.most l, []) else (-1, Zxs)
def Zlw (g : List Nd → Nd → Fnd × List Nd) (r : (Fnd × List Nd) × Nat) (m : Nd) : (Fnd × List Nd) × Nat :=
  match r.1.1 with
  | .no y n => r
  | .ok out => (match g r.1.2 m with
    | (.ok d, a) => ((.ok (out ++ Ykr r.2 :: d), a), r.2 + 1)
    | (.no y n, a) => ((.no y n, a), r.2))
def Zow (k : Wk) (sp : Bool) (dec : Int → List Nat) : Nat → List Nd → Nd → Fnd × List Nd
  | f, asked, n =>
    if 300 ≤ asked.length then (.no Ynp n, asked) else
    match f with
    | 0 => (.no Ymu n, asked ++ [n])
    | f + 1 =>
      match Zgj k sp n with
      | (x, y) => if x < 0 then (.no y n, asked ++ [n]) else
        match k.needs x n.2 with
        | none => (.no Ysl n, asked ++ [n])
        | some ms =>
          (match (ms.foldl (Zlw (Zow k sp dec f)) ((.ok (dec x), asked ++ [n]), 0)).1 with
          | (.ok out, a) => (.ok (if ms = [] then out else out ++ [41]), a)
          | r => r)
theorem Zvy (g : List Nd → Nd → Fnd × List Nd) : ∀ (l : List Nd) (y : List Nat) (n : Nd) (a : List Nd) (q : Nat), l.foldl (Zlw g) ((.no y n, a), q) = ((.no y n, a), q)
  | [], _, _, _, _ => rfl
  | m :: l, y, n, a, q => by simp only [List.foldl_cons, Zlw]; exact Zvy g l y n a q
theorem Ylj (g : List Nd → Nd → Fnd × List Nd) (l : List Nd) (z : (Fnd × List Nd) × Nat) (q : Nat) (hq : q < l.length) : (l.take (q + 1)).foldl (Zlw g) z = Zlw g ((l.take q).foldl (Zlw g) z) l[q] := by
  rw [List.take_succ_eq_append_getElem hq, List.foldl_append]; rfl
theorem Ylh (g : List Nd → Nd → Fnd × List Nd) (l : List Nd) (z : (Fnd × List Nd) × Nat) (q : Nat) {y : List Nat} {n : Nd} {a : List Nd} {i : Nat} (h : (l.take q).foldl (Zlw g) z = ((.no y n, a), i)) : l.foldl (Zlw g) z = ((.no y n, a), i) := by
  conv => lhs; rw [← List.take_append_drop q l]
  rw [List.foldl_append, h, Zvy]
end Go.Sim

set_option linter.unusedVariables false
set_option linter.unusedSimpArgs false
set_option maxRecDepth 20000
namespace Go.Sim
open Go Go.RowKit

noncomputable def wk (w : Wd) : Wk := ⟨Zir w, fun x t => Zho (Zmn w x) t, Znd w⟩
structure FrS (i : Nat) (qa : Pt) (h h' : Zaa) (qa' : Pt) : Prop where
  le : h.length ≤ h'.length
  eq : ∀ j, j < h.length → j ≠ i → (∀ q, qa = some (q, 0) → j ≠ q) → h'[j]? = h[j]?
  pt : qa' = qa ∨ ∀ q, qa' = some (q, 0) → h.length ≤ q
theorem FrS.of_same {i : Nat} {qa : Pt} {h h' : Zaa} (s : Zbd h.length h h') : FrS i qa h h' qa := ⟨s.le, fun j hj _ _ => s.eq j hj, .inl rfl⟩
theorem FrS.refl (i : Nat) (qa : Pt) (h : Zaa) : FrS i qa h h qa := .of_same (Zbd.refl _ _)
theorem FrS.ne {i : Nat} {qa qa' : Pt} {h h' : Zaa} (f : FrS i qa h h' qa') {j : Nat} (hj : j < h.length) (hq : ∀ q, qa = some (q, 0) → j ≠ q) : ∀ q, qa' = some (q, 0) → j ≠ q := by
  intro q hq'
  rcases f.pt with e | e
  · exact hq q (e ▸ hq')
  · have := e q hq'; omega
theorem FrS.trans {i : Nat} {qa qa1 qa2 : Pt} {h h1 h2 : Zaa} (f : FrS i qa h h1 qa1) (g : FrS i qa1 h1 h2 qa2) : FrS i qa h h2 qa2 := by
  have := f.le; have := g.le
  refine ⟨by omega, fun j hj hi hq => ?_, ?_⟩
  · rw [g.eq j (by omega) hi (f.ne hj hq)]; exact f.eq j hj hi hq
  · rcases g.pt with e | e
    · rcases f.pt with e' | e'
      · exact .inl (e.trans e')
      · exact .inr fun q hq => e' q (e ▸ hq)
    · exact .inr fun q hq => by have := e q hq; omega
theorem FrS.set {i : Nat} {qa : Pt} {h : Zaa} {x : Zcg} : FrS i qa h (h.set i x) qa := ⟨by simp, fun j _ hi _ => Zcv (fun e => hi e.symm), .inl rfl⟩
theorem FrS.get {i : Nat} {qa qa' : Pt} {h h' : Zaa} (f : FrS i qa h h' qa') {j : Nat} {x : Zcg} (hj : h[j]? = some x) (hi : j ≠ i) (hq : ∀ q, qa = some (q, 0) → j ≠ q) : h'[j]? = some x := by rw [f.eq j (Own.lt hj) hi hq]; exact hj
theorem FrS.row {i : Nat} {qa qa' : Pt} {h h' : Zaa} (f : FrS i qa h h' qa') {a : Pt} {n : Nat} {cs : List Zaq} (r : Row h.length h a n cs) (hn : ∀ j o, n ≠ 0 → a = some (j, o) → j ≠ i ∧ ∀ q, qa = some (q, 0) → j ≠ q) : Row h'.length h' a n cs := by
  obtain ⟨hl, r⟩ := r
  by_cases h0 : n = 0
  · exact ⟨hl, .inl h0⟩
  · refine ⟨hl, r.imp id ?_⟩
    rintro ⟨j, o', t, all, ro, ha, hi, hg, x⟩
    have := f.le
    obtain ⟨h1, h2⟩ := hn j o' h0 ha
    exact ⟨j, o', t, all, ro, ha, by omega, by rw [f.eq j hi h1 h2]; exact hg, x⟩
theorem FrS.below {i b : Nat} {qa qa' : Pt} {h h' : Zaa} (f : FrS i qa h h' qa') (hb : b ≤ h.length) (hi : b ≤ i) (hq : ∀ q, qa = some (q, 0) → b ≤ q) : Zbd b h h' := ⟨f.le, fun j hj => f.eq j (by omega) (by omega) fun q hq' => by have := hq q hq'; omega⟩
theorem Ybb {w : Wd} (hw : Zdw w = true) {n : Nd} {k : Nat} (hk : k < w.is.length) {ms : List Nd} (h : Zho w.is[k] n.2 = some ms) : ms.length ≤ 3 ∧ ∀ m ∈ ms, Zfk w m = true := by
  have := Yky hw (List.getElem_mem hk) h
  exact ⟨this.1, this.2⟩
theorem Zys {w : Wd} {n : Nd} (h : Zfk w n = true) : Zoj n.2 = true ∧ n.2.length ≤ 60 := by
  have : Zoj n.2 = true := by
    unfold Zfk at h
    simp only [Bool.and_eq_true] at h
    exact h.2
  exact ⟨this, (Zyz this)⟩
end Go.Sim

set_option linter.unusedVariables false
set_option maxRecDepth 100000
namespace Go.Sim
open Go Go.RowKit
def Zqr (Q : QT) (a0 : Pt) (x2 : Int) (lh : Nat) (hX : Zaa) (aX : Pt) (nX cX : Nat) (eX : Bool) : Prop :=
 Zbf a0 fun i_33 o_34 => Zbw (Zbc hX (.ptr (some (i_33, o_34 + 4))) [.slice aX nX cX eX]) fun h_35 => Zbf a0 fun i_36 o_37 => xSl (Zae h_35 (.ptr (some (i_36, o_37 + 3)))) fun a_38 n_39 c_40 e_41 => bcase (decide (((((n_39 : Nat) : Int)) : Int) ≥ 300)) (Zbf a0 fun i_42 o_43 => Zbw (Zbc h_35 (.ptr (some (i_42, o_43 + 5))) [.str ([108, 111, 110, 103])]) fun h_44 => Q (.str []) h_44) (Zbf a0 fun i_45 o_46 => xSl (Zae h_35 (.ptr (some (i_45, o_46 + 3)))) fun a_47 n_48 c_49 e_50 => Zce (Zaw h_35 (.ptr (some (lh, 0))) 2) fun cs_51 => Zad cs_51 fun c_52 r_53 => Zaz (some c_52) fun s_54 => Zad r_53 fun c_55 r_56 => Zaz (some c_55) fun s_57 => Zbl r_56 ((Zae h_35 (.ptr (some (i_45, o_46 + 3))) = Zae h_35 (.ptr (some (i_45, o_46 + 3)))) ∧ Zck (h_35 ++ [.cells Zab [.str s_54, .str s_57] false]) fun h_58 => (Zae h_58 (.ptr (some (i_45, o_46 + 3))) = Zae h_35 (.ptr (some (i_45, o_46 + 3)))) ∧ Zcs pg Zbm h_58 (.slice a_47 n_48 c_49 e_50) (.slice (some (List.length h_35, 0)) 1 1 true) fun v_59 h_60 => xSl (some v_59) fun a_61 n_62 c_63 e_64 => Zbf a0 fun i_65 o_66 => Zbw (Zbc h_60 (.ptr (some (i_65, o_66 + 3))) [.slice a_61 n_62 c_63 e_64]) fun h_67 => bcase (decide ((x2 : Int) > 30)) (Zbf a0 fun i_68 o_69 => Zbw (Zbc h_67 (.ptr (some (i_68, o_69 + 5))) [.str ([100, 101, 101, 112])]) fun h_70 => Q (.str []) h_70) (Zce (Zaw h_67 (.ptr (some (lh, 0))) 2) fun cs_71 => Zad cs_71 fun c_72 r_73 => Zaz (some c_72) fun s_74 => Zad r_73 fun c_75 r_76 => Zaz (some c_75) fun s_77 => Zbl r_76 (Zag pg Zel [.ptr a0, .agg [.str s_74, .str s_77]] h_67 fun v_78 h_79 =>
 Zem .i64 (some v_78) fun x_80 => bcase (decide ((x_80 : Int) < 0)) (Q (.str []) h_79) (Zbf a0 fun i_81 o_82 => xSl (Zae h_79 (.ptr (some (i_81, o_82 + 0 + 1)))) fun a_83 n_84 c_85 e_86 => (0 ≤ (x_80 : Int) ∧ (x_80 : Int) < (n_84 : Nat)) ∧ (Zbf a_83 fun i_87 o_88 => Zce (Zaw h_79 (.ptr (some (i_87, o_88 + (Int.toNat x_80) * 3))) 3) fun cs_89 => Zad cs_89 fun c_90 r_91 => Zaz (some c_90) fun s_92 => Zad r_91 fun c_93 r_94 => Zaz (some c_93) fun s_95 => Zad r_94 fun c_96 r_97 => xSl (some c_96) fun a_98 n_99 c_100 e_101 => Zbl r_97 (Zaz (Zae h_79 (.ptr (some (lh, 0 + 1)))) fun s_102 => (Zaw h_79 (.ptr (some (i_87, o_88 + (Int.toNat x_80) * 3))) 3 = Zaw h_79 (.ptr (some (i_87, o_88 + (Int.toNat x_80) * 3))) 3) ∧ (Zae h_79 (.ptr (some (i_81, o_82 + 0 + 1))) = Zae h_79 (.ptr (some (i_81, o_82 + 0 + 1)))) ∧ Zag pg Zgz [.agg [.str s_92, .str s_95, .slice a_98 n_99 c_100 e_101], .str s_102] h_79 fun v_103 h_104 =>
 Zjg v_103 fun cs_105 => Zad cs_105 fun c_106 r_107 => xSl (some c_106) fun a_108 n_109 c_110 e_111 => Zad r_107 fun c_112 r_113 => Zbr (some c_112) fun b_114 => Zbl r_113 ((Zae h_104 (.ptr (some (i_81, o_82 + 0 + 1))) = Zae h_79 (.ptr (some (i_81, o_82 + 0 + 1)))) ∧ bcase (!b_114) (Zbf a0 fun i_115 o_116 => Zbw (Zbc h_104 (.ptr (some (i_115, o_116 + 5))) [.str ([98, 105, 103])]) fun h_117 => Q (.str []) h_117) (Zag pg Zfw [.int .i64 x_80] h_104 fun v_118 h_119 =>
 Zaz (some v_118) fun s_120 => Zdn.L18 Q a0 x2 a_108 n_109 c_110 e_111 s_120 a_108 n_109 c_110 e_111 (((n_109 : Nat) : Int)) 0 h_119)))))))))
theorem Zzi (a0 : Pt) (x1x0 x1x1 : List Nat) (x2 : Int) (h : Zaa) (Q : QT) (ht :
 Zck (h ++ [.cells Zab [.str x1x0, .str x1x1] false]) fun h_0 => Zbf a0 fun i_1 o_2 => xSl (Zae h_0 (.ptr (some (i_1, o_2 + 4)))) fun a_3 n_4 c_5 e_6 => Zjr a_3 n_4 c_5 e_6 2 none (some (.int .i64 x2)) none fun v_7 => xSl (some v_7) fun a_8 n_9 c_10 e_11 => Zce (Zaw h_0 (.ptr (some (List.length h, 0))) 2) fun cs_12 => Zad cs_12 fun c_13 r_14 => Zaz (some c_13) fun s_15 => Zad r_14 fun c_16 r_17 => Zaz (some c_16) fun s_18 => Zbl r_17 ((Zck (h_0 ++ [.cells Zab [] false]) fun h_19 => (Zaw h_19 (.ptr (some (List.length h, 0))) 2 = Zaw h_0 (.ptr (some (List.length h, 0))) 2) ∧ (Zae h_19 (.ptr (some (i_1, o_2 + 4))) = Zae h_0 (.ptr (some (i_1, o_2 + 4)))) ∧ (Zcs pg Zbm h_19 (.slice (some (List.length h_0, 0)) 0 0 true) (.slice a_8 n_9 c_10 e_11) fun v_20 h_21 => xSl (some v_20) fun a_22 n_23 c_24 e_25 => (Zaw h_21 (.ptr (some (List.length h, 0))) 2 = Zaw h_19 (.ptr (some (List.length h, 0))) 2) ∧ (Zae h_21 (.ptr (some (i_1, o_2 + 4))) = Zae h_19 (.ptr (some (i_1, o_2 + 4)))) ∧ Zck (h_21 ++ [.cells Zab [.str s_15, .str s_18] false]) fun h_26 => (Zae h_26 (.ptr (some (i_1, o_2 + 4))) = Zae h_21 (.ptr (some (i_1, o_2 + 4)))) ∧ Zcs pg Zbm h_26 (.slice a_22 n_23 c_24 e_25) (.slice (some (List.length h_21, 0)) 1 1 true) fun v_27 h_28 => xSl (some v_27) fun a_29 n_30 c_31 e_32 => (Zaw h_28 (.ptr (some (List.length h, 0))) 2 = Zaw h_26 (.ptr (some (List.length h, 0))) 2) ∧ (Zae h_28 (.ptr (some (i_1, o_2 + 4))) = Zae h_26 (.ptr (some (i_1, o_2 + 4)))) ∧ Zqr Q a0 x2 (List.length h) h_28 a_29 n_30 c_31 e_32) ∧ (Zck (h_19 ++ [.cells Zab [.str s_15, .str s_18] false]) fun h_121 => (Zae h_121 (.ptr (some (i_1, o_2 + 4))) = Zae h_19 (.ptr (some (i_1, o_2 + 4)))) ∧ Zcs pg Zbm h_121 (.slice (some (List.length h_0, 0)) 0 0 true) (.slice a_8 n_9 c_10 e_11) fun v_122 h_123 => xSl (some v_122) fun a_124 n_125 c_126 e_127 => (Zaw h_123 (.ptr (some (List.length h, 0))) 2 = Zaw h_121 (.ptr (some (List.length h, 0))) 2) ∧ (Zae h_123 (.ptr (some (i_1, o_2 + 4))) = Zae h_121 (.ptr (some (i_1, o_2 + 4)))) ∧ Zcs pg Zbm h_123 (.slice a_124 n_125 c_126 e_127) (.slice (some (List.length h_19, 0)) 1 1 true) fun v_128 h_129 => xSl (some v_128) fun a_130 n_131 c_132 e_133 => (Zaw h_129 (.ptr (some (List.length h, 0))) 2 = Zaw h_123 (.ptr (some (List.length h, 0))) 2) ∧ (Zae h_129 (.ptr (some (i_1, o_2 + 4))) = Zae h_123 (.ptr (some (i_1, o_2 + 4)))) ∧ Zqr Q a0 x2 (List.length h) h_129 a_130 n_131 c_132 e_133)) ∧ (Zck (h_0 ++ [.cells Zab [.str s_15, .str s_18] false]) fun h_222 => (Zae h_222 (.ptr (some (i_1, o_2 + 4))) = Zae h_0 (.ptr (some (i_1, o_2 + 4)))) ∧ Zck (h_222 ++ [.cells Zab [] false]) fun h_223 => (Zaw h_223 (.ptr (some (List.length h, 0))) 2 = Zaw h_222 (.ptr (some (List.length h, 0))) 2) ∧ (Zae h_223 (.ptr (some (i_1, o_2 + 4))) = Zae h_222 (.ptr (some (i_1, o_2 + 4)))) ∧ Zcs pg Zbm h_223 (.slice (some (List.length h_222, 0)) 0 0 true) (.slice a_8 n_9 c_10 e_11) fun v_224 h_225 => xSl (some v_224) fun a_226 n_227 c_228 e_229 => (Zaw h_225 (.ptr (some (List.length h, 0))) 2 = Zaw h_223 (.ptr (some (List.length h, 0))) 2) ∧ (Zae h_225 (.ptr (some (i_1, o_2 + 4))) = Zae h_223 (.ptr (some (i_1, o_2 + 4)))) ∧ Zcs pg Zbm h_225 (.slice a_226 n_227 c_228 e_229) (.slice (some (List.length h_0, 0)) 1 1 true) fun v_230 h_231 => xSl (some v_230) fun a_232 n_233 c_234 e_235 => (Zaw h_231 (.ptr (some (List.length h, 0))) 2 = Zaw h_225 (.ptr (some (List.length h, 0))) 2) ∧ (Zae h_231 (.ptr (some (i_1, o_2 + 4))) = Zae h_225 (.ptr (some (i_1, o_2 + 4)))) ∧ Zqr Q a0 x2 (List.length h) h_231 a_232 n_233 c_234 e_235))) : Zag pg Zfd [.ptr a0, .agg [.str x1x0, .str x1x1], .int .i64 x2] h Q :=
  Zdn.call a0 x1x0 x1x1 x2 h Q ht
end Go.Sim

set_option linter.unusedSimpArgs false
set_option linter.unusedVariables false
namespace Go.Sim

def Yqu : Fnd → List Nat | .ok s => s | .no _ _ => []
def Yso : Fnd → List Nat | .ok _ => [] | .no y _ => y
def Ycy (ms : List Nd) (r : Fnd × List Nd) : Fnd × List Nd := match r with | (.ok out, a) => (.ok (if ms = [] then out else out ++ [41]), a) | r => r
section
variable {k : Wk} {sp : Bool} {dec : Int → List Nat}
theorem Yah {f : Nat} {asked : List Nd} {n : Nd} (h : 300 ≤ asked.length) : Zow k sp dec f asked n = (.no Ynp n, asked) := by cases f <;> (unfold Zow; rw [if_pos h])
theorem Yab {asked : List Nd} {n : Nd} (h : ¬ 300 ≤ asked.length) : Zow k sp dec 0 asked n = (.no Ymu n, asked ++ [n]) := by unfold Zow; rw [if_neg h]
theorem Zsq {f : Nat} {asked : List Nd} {n : Nd} (h : ¬ 300 ≤ asked.length) (hx : (Zgj k sp n).1 < 0) : Zow k sp dec (f + 1) asked n = (.no (Zgj k sp n).2 n, asked ++ [n]) := by
  unfold Zow; rw [if_neg h]; simp only; rw [if_pos hx]
theorem Yeq {f : Nat} {asked : List Nd} {n : Nd} (h : ¬ 300 ≤ asked.length) (hx : ¬ (Zgj k sp n).1 < 0) (hn : k.needs (Zgj k sp n).1 n.2 = none) : Zow k sp dec (f + 1) asked n = (.no Ysl n, asked ++ [n]) := by
  unfold Zow; rw [if_neg h]; simp only; rw [if_neg hx, hn]
theorem Ykd {f : Nat} {asked : List Nd} {n : Nd} {ms : List Nd} (h : ¬ 300 ≤ asked.length) (hx : ¬ (Zgj k sp n).1 < 0) (hn : k.needs (Zgj k sp n).1 n.2 = some ms) :
    Zow k sp dec (f + 1) asked n = Ycy ms (ms.foldl (Zlw (Zow k sp dec f)) ((.ok (dec (Zgj k sp n).1), asked ++ [n]), 0)).1 := by
  conv => lhs; unfold Zow
  rw [if_neg h]; simp only; rw [if_neg hx, hn]; rfl
def Ytg (asked : List Nd) (r : Fnd × List Nd) : Prop := asked.length ≤ r.2.length ∧ r.2.length ≤ 300 ∧ ∀ s, r.1 = .ok s → s.length + 10 * asked.length + 2 ≤ 10 * r.2.length
theorem Zud {g : List Nd → Nd → Fnd × List Nd} (hg : ∀ a m, a.length ≤ 300 → Ytg a (g a m)) (A : Nat) : ∀ (l : List Nd) (z : (Fnd × List Nd) × Nat), z.1.2.length ≤ 300 → A ≤ z.1.2.length → (∀ s, z.1.1 = .ok s → s.length + 10 * A + 3 ≤ 10 * z.1.2.length) →
    let r := l.foldl (Zlw g) z; A ≤ r.1.2.length ∧ r.1.2.length ≤ 300 ∧ ∀ s, r.1.1 = .ok s → s.length + 10 * A + 3 ≤ 10 * r.1.2.length
  | [], z, h1, h2, h3 => ⟨h2, h1, h3⟩
  | m :: l, z, h1, h2, h3 => by
    simp only [List.foldl_cons]
    have key : (Zlw g z m).1.2.length ≤ 300 ∧ A ≤ (Zlw g z m).1.2.length ∧ ∀ s, (Zlw g z m).1.1 = .ok s → s.length + 10 * A + 3 ≤ 10 * (Zlw g z m).1.2.length := by
      obtain ⟨⟨x, a⟩, q⟩ := z
      cases x with
      | no y n => exact ⟨h1, h2, fun s hs => by cases hs⟩
      | ok out =>
        have hb := hg a m h1
        have h3' := h3 out rfl
        simp only at h1 h2 h3'
        unfold Zlw
        simp only
        rcases hgm : g a m with ⟨d, a'⟩
        rw [hgm] at hb
        obtain ⟨b1, b2, b3⟩ := hb
        simp only at b1 b2 b3
        cases d with
        | no y n => exact ⟨b2, by simp only; omega, fun s hs => by cases hs⟩
        | ok d =>
          have := b3 d rfl
          refine ⟨b2, by simp only; omega, fun s hs => ?_⟩
          cases hs
          simp only [List.length_append, List.length_cons]
          omega
    exact Zud hg A l _ key.1 key.2.1 key.2.2
theorem Ycp (hd : ∀ x, (dec x).length ≤ 6) : ∀ (f : Nat) (asked : List Nd) (n : Nd), asked.length ≤ 300 → Ytg asked (Zow k sp dec f asked n)
  | f, asked, n, h => by
    by_cases h3 : 300 ≤ asked.length
    · rw [Yah h3]; exact ⟨Nat.le_refl _, h, fun s hs => by cases hs⟩
    · match f with
      | 0 => rw [Yab h3]; exact ⟨by simp, by simp; omega, fun s hs => by cases hs⟩
      | f + 1 =>
        by_cases hx : (Zgj k sp n).1 < 0
        · rw [Zsq h3 hx]; exact ⟨by simp, by simp; omega, fun s hs => by cases hs⟩
        · cases hn : k.needs (Zgj k sp n).1 n.2 with
          | none => rw [Yeq h3 hx hn]; exact ⟨by simp, by simp; omega, fun s hs => by cases hs⟩
          | some ms =>
            rw [Ykd h3 hx hn]
            have := Zud (g := Zow k sp dec f) (fun a m ha => Ycp hd f a m ha) asked.length ms ((.ok (dec (Zgj k sp n).1), asked ++ [n]), 0) (by simp; omega) (by simp) (fun s hs => by
              cases hs; have := hd (Zgj k sp n).1; simp; omega)
            simp only at this
            generalize (ms.foldl (Zlw (Zow k sp dec f)) ((.ok (dec (Zgj k sp n).1), asked ++ [n]), 0)).1 = z at this ⊢
            obtain ⟨x, a⟩ := z
            obtain ⟨t1, t2, t3⟩ := this
            simp only at t1 t2 t3
            cases x with
            | no y n => exact ⟨t1, t2, fun s hs => by cases hs⟩
            | ok out =>
              refine ⟨t1, t2, fun s hs => ?_⟩
              have := t3 out rfl
              simp only [Ycy, Fnd.ok.injEq] at hs
              subst hs
              split <;> simp [Ycy] <;> omega
theorem Ynf {g : List Nd → Nd → Fnd × List Nd} (l : List Nd) (z : (Fnd × List Nd) × Nat) {out : List Nat} : (l.foldl (Zlw g) z).1.1 = .ok out → (l.foldl (Zlw g) z).2 = z.2 + l.length := by
  induction l generalizing z with
  | nil => intro _; rfl
  | cons m l ih =>
    intro h
    simp only [List.foldl_cons] at h ⊢
    rw [ih _ h]
    obtain ⟨⟨x, a⟩, q⟩ := z
    have hno : ∀ y n a q, (l.foldl (Zlw g) ((.no y n, a), q)).1.1 ≠ .ok out := fun y n a q => by rw [Zvy]; simp
    cases x with
    | no y n => exact absurd h (hno y n a q)
    | ok o =>
      unfold Zlw at h ⊢
      simp only at h ⊢
      rcases hgm : g a m with ⟨d, a'⟩
      rw [hgm] at h
      cases d with
      | no y n => exact absurd h (hno y n a' q)
      | ok d => simp only [List.length_cons]; omega
end
end Go.Sim

set_option linter.unusedVariables false
set_option linter.unusedSimpArgs false
set_option maxRecDepth 20000
namespace Go.Sim
open Go Go.RowKit

theorem Ypn {g : FuncId} {caps : List Zaq} {K : FuncId → List Zaq → Prop} : Yqy (.fn g caps) K = K g caps := rfl
theorem Vec.app0 {P : Program} {t ty : TypeId} {h : Zaa} {i n c sz : Nat} {e : Bool} {xa : Pt} {m c' : Nat} {e' : Bool} {cs new : List Zaq} {K : Zaq → Zaa → Prop} (hi : h[i]? = some (.cells ty cs false))
    (hu : P.underlying t = some (.slice ty)) (hc : P.cellsOf ty = sz) (hok : P.okElem ty = true) (hby : P.bytesOf ty ≤ 127) (hn : cs.length = n * sz) (hx : rowOf h xa (m * sz) = some new) (hl : new.all Zaq.leaf = true)
    (hle : n + m ≤ 1099511627776) (hk : ∀ h', h'.length = h.length + 1 → h'[h.length]? = some (.cells ty (cs ++ new) false) → (∀ j, j < h.length → j ≠ i → h'[j]? = h[j]?) →
      K (.slice (some (h.length, 0)) (n + m) (n + m) false) h') : Zcs P t h (.slice (some (i, 0)) n c e) (.slice xa m c' e') K := by
  unfold Zcs
  simp only [hu, hc, hx, Zas]
  refine ⟨⟨hok, ?_, hl⟩, .inl ⟨by trivial, ?_⟩⟩
  · have : (n + m) * (P.bytesOf ty + 1) ≤ (n + m) * 128 := Nat.mul_le_mul_left _ (by omega)
    omega
  · simp only [Zqj, hi, true_and]
    refine ⟨hn, hk _ (by simp) (by rw [List.getElem?_append_right (by simp)]; simp) fun j hj hne => ?_⟩
    rw [List.getElem?_append_left (by simpa using hj), List.getElem?_set_ne (fun e => hne e.symm)]
theorem Zvz {h : Zaa} {a : Pt} {n c : Nat} {e : Bool} {l : List Nd} (r : Row h.length h a (n * 2) (Zeg eP l)) (he : a = none → e = true) (hn : n ≤ 1048576) :
    Zag pg Zcr [.slice a n c e] h fun v h' => ∃ a' c' e', v = .slice a' n c' e' ∧ Ylm h.length h' a' n c' l ∧ Zbd h.length h h' ∧ (a' = none → e' = true) := by
  have hl : l.length = n := by have := r.1; rw [Zbb Zdd] at this; omega
  apply Zfm.call
  refine ⟨he, ?_⟩
  match a with
  | none =>
    have h0 : n = 0 := by
      rcases r.2 with h0 | ⟨i, o, t, all, ro, ha, _⟩
      · omega
      · cases ha
    subst h0
    have : l = [] := List.eq_nil_of_length_eq_zero hl
    subst this
    exact ⟨none, 0, true, rfl, ⟨.inl ⟨rfl, rfl, rfl, rfl⟩, rfl, fun i hi => by cases hi⟩, Zbd.refl _ _, fun _ => rfl⟩
  | some (i, o) =>
    simp only [Option.isNone_some, Zax]
    generalize hh0 : h ++ [Zcg.cells Zab [] false] = h0
    have s0 : Zbd h.length h h0 := by rw [← hh0]; exact Zam
    have o0 : h0[h.length]? = some (.cells Zab [] false) := by rw [← hh0]; simp
    have l0 : h0.length = h.length + 1 := by rw [← hh0]; simp
    refine Zdi (fun h => by cases h) (fun _ => ?_)
    refine Vec.app0 (n := 0) o0 Zjz Zqk Zpp Zqc (by simp) (r.same' s0).rowOf (Znx (enc := eP) (fun _ => rfl) l) (by omega) (fun h1 hl1 hi1 hk1 => ?_)
    simp only [Zaj, Nat.zero_add]
    exact ⟨_, _, _, rfl, ⟨Vec.mk1 (by simpa using hi1), hl, fun j hj => by cases hj; omega⟩, ⟨by omega, fun j hj => by rw [hk1 j (by omega) (by omega)]; exact s0.eq j hj⟩, fun h => by cases h⟩
structure Yai (hb : Zaa) (i : Nat) (u v : Zaq) (sp : Bool) (h : Zaa) (qa : Pt) (asked : List Nd) (fl : Nd) : Prop where
  same : Zbd hb.length hb h
  ge : hb.length ≤ i
  ob : ∃ qn qc qe x7, h[i]? = some (.cells Zeu [u, v, .bool sp, .fn Zco [], .slice qa qn qc qe, .str fl.1, .str fl.2, x7] false) ∧ Ylm hb.length h qa qn qc asked
  ne : ∀ q, qa = some (q, 0) → q ≠ i
section
variable {hb : Zaa} {i : Nat} {u v : Zaq} {sp : Bool} {h : Zaa} {qa : Pt} {asked : List Nd} {fl : Nd}
theorem Yai.step {h' : Zaa} (r : Yai hb i u v sp h qa asked fl) (k : Zbd h.length h h') : Yai hb i u v sp h' qa asked fl := by
  obtain ⟨qn, qc, qe, x7, ho, hv⟩ := r.ob
  exact ⟨r.same.trans (k.mono r.same.le), r.ge, ⟨qn, qc, qe, x7, k.get ho (Own.lt ho), hv.same k⟩, r.ne⟩
theorem Yai.lt (r : Yai hb i u v sp h qa asked fl) : i < h.length := by obtain ⟨_, _, _, _, ho, _⟩ := r.ob; exact Own.lt ho
theorem Yai.low (r : Yai hb i u v sp h qa asked fl) : ∀ q, qa = some (q, 0) → hb.length ≤ q ∧ q < h.length := by
  obtain ⟨qn, qc, qe, x7, ho, hv⟩ := r.ob
  exact fun q hq => ⟨hv.low q hq, hv.vec.lt' hq⟩
theorem Yai.write {qa' : Pt} {qn qc : Nat} {qe : Bool} {x7 : Zaq} {x : Zcg} {l : List Nd} {fl' : Nd} (sm : Zbd hb.length hb h) (ge : hb.length ≤ i) (ho : h[i]? = some x)
    (hv : Ylm hb.length h qa' qn qc l) (ne : ∀ q, qa' = some (q, 0) → q ≠ i) : Yai hb i u v sp (h.set i (.cells Zeu [u, v, .bool sp, .fn Zco [], .slice qa' qn qc qe, .str fl'.1, .str fl'.2, x7] false)) qa' l fl' := by
  refine ⟨⟨by simp; exact sm.le, fun j hj => by rw [Zcv (by omega)]; exact sm.eq j hj⟩, ge, ⟨qn, qc, qe, x7, Zdq ho, ⟨?_, hv.len, hv.low⟩⟩, ne⟩
  exact hv.vec.agree fun j hj => Zcv (fun e => ne j hj e.symm)
def Yis (hb : Zaa) (i : Nat) (u v : Zaq) (sp : Bool) (h : Zaa) (qa : Pt) (r : Fnd × List Nd) (x : Zaq) (h' : Zaa) : Prop :=
  ∃ qa' fl', x = .tup [.str (Yqu r.1), .str (Yso r.1)] ∧ Yai hb i u v sp h' qa' r.2 fl' ∧ FrS i qa h h' qa' ∧ ∀ y n, r.1 = .no y n → (y ≠ [] ∧ y ≠ Zui) ∧ fl' = n
theorem Yis.of {h0 : Zaa} {qa0 : Pt} {r : Fnd × List Nd} {x : Zaq} {h' : Zaa} (F : FrS i qa0 h0 h qa) (q : Yis hb i u v sp h qa r x h') : Yis hb i u v sp h0 qa0 r x h' := by
  obtain ⟨qa', fl', e, a, f, z⟩ := q
  exact ⟨qa', fl', e, a, F.trans f, z⟩
theorem Yds (y : List Nat) (hy : y ≠ [] ∧ y ≠ Zui) (rd : Yai hb i u v sp h qa asked fl) {n : Nd} {p0 p1 p2 : Nat} {a : Pt} {m c : Nat} {e : Bool} {st : List Nd} (hp0 : h[p0]? = some (.cells Zfo [.ptr (some (i, 0))] false))
    (hp1 : h[p1]? = some (.cells Zab [.str n.1, .str n.2] false)) (hp2 : h[p2]? = some (.cells Zbm [.slice a m c e] false)) (row : Row h.length h a (m * 2) (Zeg eP st)) (he : a = none → e = true) (hm : m ≤ 1048576) (hne : p0 ≠ i) :
    Zag pg Zcn [.str y, .ptr (some (p1, 0)), .ptr (some (p2, 0)), .ptr (some (p0, 0))] h (Yis hb i u v sp h qa (.no y n, asked)) := by
  apply Zkn.call
  simp only [Zak hp0, Zay hp1, Zak hp2, List.getElem?_cons_zero, Zeo, Zas, Zah, Zan, Zai, Zaj, true_and]
  refine (Zvz row he hm).mono ?_
  rintro x h2 ⟨a', c', e', rfl, nv, s2, _⟩
  have q0 := s2.get hp0 (Own.lt hp0)
  have q1 := s2.get hp1 (Own.lt hp1)
  have rd2 := rd.step s2
  obtain ⟨qn, qc, qe, x7, ho, hv⟩ := rd2.ob
  simp only [Zak q0, Zay q1, List.getElem?_cons_zero, Zaj, Zau, true_and]
  rw [Zbv ho (by simp)]
  simp only [Zba, putRow, List.take_succ_cons, List.take_zero, List.length_cons, List.length_nil, List.drop_succ_cons, List.drop_zero, List.drop_nil, List.cons_append, List.nil_append, List.append_nil]
  refine ⟨by rw [Zak (by rw [Zcv hne.symm]; exact q0)]; rfl, ?_⟩
  rw [Zbv (Zdq ho) (by simp)]
  simp only [Zba, putRow, List.take_succ_cons, List.take_zero, List.length_cons, List.length_nil, List.drop_succ_cons, List.drop_zero, List.drop_nil, List.cons_append, List.nil_append, List.append_nil, List.set_set]
  refine ⟨qa, n, rfl, Yai.write rd2.same rd.ge ho hv rd.ne, (FrS.of_same s2).trans FrS.set, fun y' n' hyn => ?_⟩
  cases hyn
  exact ⟨hy, rfl⟩
end
def Zpw (x : Int) : List Nat := [48 + x.toNat]
def Ysk (f : Nat) (hb : Zaa) (a0 a1 : Pt) (n0 c0 n1 c1 : Nat) (e0 e1 : Bool) (w : Wd) (sp : Bool) : Prop := ∀ {h : Zaa} {i : Nat} {qa : Pt} {asked : List Nd} {fl n : Nd} {a2 : Pt} {n2 c2 : Nat} {e2 : Bool} {st : List Nd}, Yai hb i (.slice a0 n0 c0 e0) (.slice a1 n1 c1 e1) sp h qa asked fl → asked.length ≤ 300 → n2 + f = 31 →
      Row h.length h a2 (n2 * 2) (Zeg eP st) → (a2 = none → e2 = true) → (∀ j o, n2 ≠ 0 → a2 = some (j, o) → j ≠ i ∧ ∀ q, qa = some (q, 0) → j ≠ q) →
      Zag pg Zhy [.ptr (some (i, 0)), .agg [.str n.1, .str n.2], .slice a2 n2 c2 e2] h (Yis hb i (.slice a0 n0 c0 e0) (.slice a1 n1 c1 e1) sp h qa (Zow (wk w) sp Zpw f asked n))
theorem Ykf {k : Nat} (h : k < 10) : Ycz k = Zpw k := by rw [Zvu h]; rfl
theorem Zvx {w : Wd} (h : Zdw w = true) : w.is.length ≤ 10 := by
  unfold Zdw at h
  simp only [Bool.and_eq_true, decide_eq_true_eq] at h
  exact h.1.2
noncomputable def Zfr (w : Wd) (sp : Bool) (f : Nat) (k : Nat) (asked : List Nd) (n : Nd) (ms : List Nd) (g : Nat) : (Fnd × List Nd) × Nat := (ms.take g).foldl (Zlw (Zow (wk w) sp Zpw f)) ((.ok (Zpw k), asked ++ [n]), 0)
theorem Zmy {w : Wd} {sp : Bool} {f k : Nat} {asked : List Nd} {n : Nd} {ms : List Nd} (h : ¬ 300 ≤ asked.length) (g : Nat) :
    (Zfr w sp f k asked n ms g).1.2.length ≤ 300 ∧ ∀ s, (Zfr w sp f k asked n ms g).1.1 = .ok s → s.length ≤ 3000 := by
  have := Zud (g := Zow (wk w) sp Zpw f) (fun a m ha => Ycp (fun x => by simp [Zpw]) f a m ha) asked.length (ms.take g) ((.ok (Zpw k), asked ++ [n]), 0) (by simp; omega) (by simp) (fun s hs => by
    cases hs; simp [Zpw]; omega)
  simp only at this
  exact ⟨this.2.1, fun s hs => by have := this.2.2 s hs; have := this; omega⟩
theorem Zyh {w : Wd} {sp : Bool} {f k : Nat} {asked : List Nd} {n : Nd} {ms : List Nd} {g : Nat} (hg : g ≤ ms.length) {out : List Nat} (h : (Zfr w sp f k asked n ms g).1.1 = .ok out) : (Zfr w sp f k asked n ms g).2 = g := by
  have := Ynf (ms.take g) ((.ok (Zpw k), asked ++ [n]), 0) h
  unfold Zfr
  rw [this]; simp; omega
theorem Zwd {w : Wd} {sp : Bool} {f k : Nat} {asked : List Nd} {n : Nd} {ms : List Nd} {g : Nat} (hg : g < ms.length) : Zfr w sp f k asked n ms (g + 1) = Zlw (Zow (wk w) sp Zpw f) (Zfr w sp f k asked n ms g) ms[g] := Ylj _ ms _ g hg
theorem Zwm {w : Wd} {sp : Bool} {f k : Nat} {asked : List Nd} {n : Nd} {ms : List Nd} {g : Nat} {y : List Nat} {m : Nd} {a : List Nd} {q : Nat} (h : Zfr w sp f k asked n ms g = ((.no y m, a), q)) : Zfr w sp f k asked n ms ms.length = ((.no y m, a), q) := by
  have := Ylh (Zow (wk w) sp Zpw f) ms ((.ok (Zpw k), asked ++ [n]), 0) g h
  unfold Zfr
  rw [List.take_length]; exact this
theorem Ysv {hb : Zaa} {a0 a1 : Pt} {n0 c0 n1 c1 : Nat} {e0 e1 : Bool} {w : Wd} (r : Zlx hb a0 n0 c0 a1 n1 c1 w) (b : WB w) (hw : Zdw w = true) (sp : Bool) (f : Nat) (ih : Ysk f hb a0 a1 n0 c0 n1 c1 e0 e1 w sp)
    {h : Zaa} {i : Nat} {qa : Pt} {asked : List Nd} {fl n : Nd} {a2 : Pt} {n2 c2 : Nat} {e2 : Bool} {st : List Nd} (rd : Yai hb i (.slice a0 n0 c0 e0) (.slice a1 n1 c1 e1) sp h qa (asked ++ [n]) fl) (h300 : ¬ 300 ≤ asked.length) (hf : n2 + (f + 1) = 31)
    (row : Row h.length h a2 (n2 * 2) (Zeg eP st)) (he2 : a2 = none → e2 = true) {p0 p1 p2 : Nat} (hp0 : h[p0]? = some (.cells Zfo [.ptr (some (i, 0))] false)) (hp1 : h[p1]? = some (.cells Zab [.str n.1, .str n.2] false))
    (hp2 : h[p2]? = some (.cells Zbm [.slice a2 n2 c2 e2] false)) (hi0 : p0 ≠ i) (hq0 : ∀ q, qa = some (q, 0) → p0 ≠ q) {k : Nat} (hk : k < w.is.length) (hpick : (Zgj (wk w) sp n).1 = (k : Int)) (Q : QT)
    (hQ : ∀ x h', Yis hb i (.slice a0 n0 c0 e0) (.slice a1 n1 c1 e1) sp h qa (Zow (wk w) sp Zpw (f + 1) asked n) x h' → Q x h') : Zci.J18 Q p0 0 (k : Int) p1 0 p1 0 p2 0 p0 0 p2 0 h := by
  have hstl : st.length = n2 := by have := row.1; rw [Zbb Zdd] at this; omega
  have hl10 := Zvx hw
  have hl1 := r.len1
  obtain ⟨qn, qc, qe, x7, ho, hv⟩ := rd.ob
  have hlow := rd.low
  have hil := rd.lt
  apply Zci.J18i
  obtain ⟨ii, oi, hki, na, nn, ncp, ne, rfl, _, hri, _, _, _, hrow, hnl⟩ := (r.same rd.same).inst (k := k) (by omega)
  have hbk := b.is _ (List.getElem_mem hk)
  simp only [Zak hp0, Zak hp1, Zak ho, Nat.zero_add, List.getElem?_cons_succ, List.getElem?_cons_zero, Zeo, Zau, Zaj, Int.toNat_natCast, hri, Zas, Zah, Zan, Zai, true_and]
  refine ⟨by omega, ?_⟩
  refine (Yne (i := w.is[k]) (t := n.2) hrow (by omega)).mono ?_
  rintro v h2 ⟨s2, ma, mn, mc, me, rfl, fm⟩
  have rd2 := rd.step s2
  have F2 : FrS i qa h h2 qa := FrS.of_same s2
  have q0 := s2.get hp0 (Own.lt hp0)
  have q1 := s2.get hp1 (Own.lt hp1)
  have q2 := s2.get hp2 (Own.lt hp2)
  have o2 := s2.get ho (Own.lt ho)
  have row2 := row.same' s2
  have l2 := s2.le
  have hneeds : (wk w).needs (k : Int) n.2 = Zho w.is[k] n.2 := by show Zho (Zmn w (k : Int)) n.2 = _; rw [Zvj hk]
  simp only [Zde, Zah, Zaj, Zap, Zan, Zak q0, Zak o2, List.getElem?_cons_succ, List.getElem?_cons_zero, true_and]
  refine Zbp (fun hok => ?_) (fun hok => ?_)
  · have hask := Yeq (k := wk w) (sp := sp) (dec := Zpw) (f := f) (n := n) h300 (by rw [hpick]; omega) (by rw [hpick, hneeds]; cases hh : Zho w.is[k] n.2 with | none => rfl | some _ => rw [hh] at hok; cases hok)
    refine (Yds Ysl (by decide) rd2 q0 q1 q2 row2 he2 (by omega) hi0).mono ?_
    rintro x h' q
    obtain ⟨qa', fl', rfl, z⟩ := Yis.of F2 q
    simp only [Zde, Zah, Zai, Zan]
    exact hQ _ _ (by rw [hask]; exact ⟨qa', fl', rfl, z⟩)
  obtain ⟨ms, hms⟩ := Option.isSome_iff_exists.1 hok
  have hms3 := Ybb hw hk hms
  rw [hms] at fm
  simp only [Option.getD_some] at fm
  have hmn := fm.1
  have hask := Ykd (k := wk w) (sp := sp) (dec := Zpw) (f := f) (n := n) (asked := asked) h300 (by rw [hpick]; omega) (by rw [hpick, hneeds]; exact hms)
  rw [hpick] at hask
  have hask : Zow (wk w) sp Zpw (f + 1) asked n = Ycy ms (Zfr w sp f k asked n ms ms.length).1 := by rw [hask]; unfold Zfr; rw [List.take_length]
  have key : ∀ (hL : Zaa) (qs cs : Nat) (es : Bool), Zbd h2.length h2 hL → Row hL.length hL (some (qs, 0)) ((n2 + 1) * 2) (Zeg eP (st ++ [n])) → h2.length ≤ qs → qs < hL.length →
      Zci.L24 Q p0 0 ma mn mc me (Zpw k) (some (qs, 0)) (n2 + 1) cs es ma mn mc me (((mn : Nat) : Int)) 0 hL := by
    intro hL qs cs es sL rowL hqs1 hqs2
    have rdL := rd2.step sL
    have FL := F2.trans (FrS.of_same sL)
    have fmL := fm.same sL
    have z0 := sL.get q0 (Own.lt q0)
    have lL := sL.le
    refine Zci.L24ind _ _ _ _ _ _ _ _ _ _ _ _ _ _ _ _ (J := fun (g : Nat) x15 x8 h' => x8 = (g : Int) ∧ g ≤ mn ∧ (Zfr w sp f k asked n ms g).1.1 = .ok x15 ∧ ∃ qa' fl', Yai hb i (.slice a0 n0 c0 e0) (.slice (some (ii, oi)) n1 c1 e1) sp h' qa' (Zfr w sp f k asked n ms g).1.2 fl' ∧ FrS i qa hL h' qa') (fun g => mn - g) ?_ 0 _ _ _ ⟨rfl, by omega, rfl, qa, fl, rdL, FrS.refl _ _ _⟩
    rintro g x15 x8 h' ⟨rfl, hg, hout, qa', fl', rdg, Fg⟩ R hR
    obtain ⟨hb1, hb2⟩ := Zmy (w := w) (sp := sp) (f := f) (k := k) (n := n) (ms := ms) h300 g
    have hb2 := hb2 _ hout
    have hidx := Zyh (by omega) hout
    have hne0 : ∀ j, h.length ≤ j → j < hL.length → j ≠ i ∧ ∀ q, qa = some (q, 0) → j ≠ q := fun j hj1 hj2 => ⟨by omega, fun q hq => by have := (hlow q hq).2; omega⟩
    unfold Zci.L24t
    refine Zar (fun hlt => ?_) (fun hge => ?_)
    · have fmg : Row h'.length h' ma (mn * 2) (Zeg eP ms) := Fg.row (fmL.row Zdd) fun j o hn ha => by
        obtain ⟨_, h0 | ⟨j', hj', hb', hjj⟩⟩ := fmL
        · omega
        · rw [ha] at hj'
          cases hj'
          exact hne0 _ hb' (Own.lt hjj)
      obtain ⟨im, om, hgl, rfl, _, hrm, _⟩ := fmg.pr (k := g) (by omega)
      simp only [Zau, Int.toNat_natCast, hrm, Zas, Zah, Zan, Zai, Zax]
      rw [Zhm]
      generalize hh7 : h' ++ [Zcg.cells Zab [.str ms[g].1, .str ms[g].2] false] = h7
      have s7 : Zbd h'.length h' h7 := by rw [← hh7]; exact Zam
      have o7 : h7[h'.length]? = some (.cells Zab [.str ms[g].1, .str ms[g].2] false) := by rw [← hh7]; simp
      have zg := Fg.get z0 hi0 hq0
      have z7 := s7.get zg (Own.lt zg)
      simp only [Zba, Zak z7, Zay o7, List.getElem?_cons_zero, Zeo, Zas, Zah, Zan, Zai]
      refine ⟨by omega, ?_⟩
      have rowg : Row h'.length h' (some (qs, 0)) ((n2 + 1) * 2) (Zeg eP (st ++ [n])) := Fg.row rowL fun j o hn ha => by cases ha; exact hne0 _ (by omega) hqs2
      have hgle := Fg.le
      refine (ih (n := ms[g]) (rdg.step s7) hb1 (by omega) (rowg.same' s7) (fun hh => by cases hh) (fun j o hn ha => ?_)).mono ?_
      · cases ha
        refine ⟨by omega, fun q hq => ?_⟩
        rcases Fg.pt with e | e
        · rw [e] at hq; have := (hlow q hq).2; omega
        · have := e q hq; omega
      rintro v h8 ⟨qa8, fl8, rfl, rd8, F8, hno⟩
      have F8' := (Fg.trans (FrS.of_same s7)).trans F8
      have hsucc := Zwd (w := w) (sp := sp) (f := f) (k := k) (asked := asked) (n := n) (ms := ms) hgl
      have hPg : Zfr w sp f k asked n ms g = ((.ok x15, (Zfr w sp f k asked n ms g).1.2), g) := Prod.ext (Prod.ext hout rfl) hidx
      rw [hPg] at hsucc
      unfold Zlw at hsucc
      simp only at hsucc
      simp only [Zde, Zah, Zai, Zan]
      rcases hr : Zow (wk w) sp Zpw f (Zfr w sp f k asked n ms g).1.2 ms[g] with ⟨x, a'⟩
      rw [hr] at hsucc rd8 hno
      cases x with
      | no y m =>
        obtain ⟨hy, rfl⟩ := hno y m rfl
        simp only at hsucc
        have hall := Zwm hsucc
        refine Zbp (fun hd => ?_) (fun hd => absurd (of_decide_eq_true hd) hy.1)
        refine hQ _ _ ?_
        rw [hask, hall]
        refine ⟨qa8, fl8, rfl, rd8, FL.trans F8', fun y' n' hyn => ?_⟩
        cases hyn
        exact ⟨hy, rfl⟩
      | ok d =>
        refine Zbp (fun hd => absurd rfl (of_decide_eq_false hd)) (fun hd => ?_)
        simp only at hsucc
        obtain ⟨hc1, hc2⟩ := Zmy (w := w) (sp := sp) (f := f) (k := k) (n := n) (ms := ms) h300 (g + 1)
        have hc2 := hc2 _ (by rw [hsucc])
        simp only [List.length_append, List.length_cons] at hc2
        have fin : ∀ m3, m3 = Ykr g → Zci.J32 Q R x15 [m3] d (g : Int) (((mn : Nat) : Int)) (some (im, om)) mn mc me p0 0 (some (qs, 0)) (n2 + 1) cs es (some (im, om)) mn mc me h8 := by
          rintro m3 rfl
          apply Zci.J32i
          refine ⟨by simp; omega, by simp; omega, ?_⟩
          apply Zci.J33i
          rw [Zbt (by omega)]
          refine hR (g + 1) _ _ _ (by omega) ⟨rfl, by omega, by rw [hsucc]; simp, qa8, fl8, by rw [hsucc]; exact rd8, F8'⟩
        refine Zfq (fun h0 => fin _ (by unfold Ykr; rw [if_pos (by omega)])) (fun h0 => fin _ (by unfold Ykr; rw [if_neg (by omega)]))
    · apply Zci.A24x0i
      have : g = mn := by omega
      subst this
      have hend : Zfr w sp f k asked n ms ms.length = ((.ok x15, (Zfr w sp f k asked n ms g).1.2), g) := by rw [hmn]; exact Prod.ext (Prod.ext hout rfl) hidx
      have he : Zow (wk w) sp Zpw (f + 1) asked n = (.ok (if ms = [] then x15 else x15 ++ [41]), (Zfr w sp f k asked n ms g).1.2) := by rw [hask, hend]; rfl
      refine Zar (fun hpos => ⟨by simp; omega, ?_⟩) (fun hpos => ?_)
      · apply Zci.J36i
        refine hQ _ _ ?_
        rw [he, if_neg (fun hm => by rw [hm] at hmn; simp at hmn; omega)]
        exact ⟨qa', fl', rfl, rdg, FL.trans Fg, fun y n h => by cases h⟩
      · apply Zci.J36i
        refine hQ _ _ ?_
        rw [he, if_pos (List.eq_nil_of_length_eq_zero (by omega))]
        exact ⟨qa', fl', rfl, rdg, FL.trans Fg, fun y n h => by cases h⟩
  refine (Zze (i := k) (by omega)).mono ?_
  rintro v h3 ⟨rfl, rfl⟩
  rw [Ykf (by omega)]
  simp only [Zai, Zak q2, Zay q1, List.getElem?_cons_zero, Zaj, Zas, Zah, Zan]
  refine ⟨?_, ?_⟩
  · refine (Zvz row2 he2 (by omega)).mono ?_
    rintro v h4 ⟨a', c', e', rfl, nv, s4, _⟩
    have w1 := s4.get q1 (Own.lt q1)
    have w2 := s4.get q2 (Own.lt q2)
    have s5 : Zbd h4.length h4 (h4 ++ [Zcg.cells Zab [.str n.1, .str n.2] false]) := Zam
    simp only [Zaj, Zay w1, Zax, true_and]
    refine ⟨by rw [Zak (s5.get w2 (Own.lt w2)), Zak w2], ?_⟩
    refine nv.vec.pushN Zjz Zqk Zpp Zqc (by rw [Zbb Zdd, nv.len]) rfl (by omega) rfl (by omega) (fun h6 hl6 hi6 hk6 => ?_)
    have hs4 := s4.le
    have S6 : Zbd h3.length h3 h6 := ⟨by omega, fun j hj => by rw [hk6 j (by omega) fun q hq => by have := nv.low q hq; omega]; exact s4.eq j hj⟩
    have x1 := S6.get q1 (Own.lt q1)
    have x2 := S6.get q2 (Own.lt q2)
    simp only [Zaj]
    refine ⟨by rw [Zay x1, Zay (s5.get w1 (Own.lt w1))], by rw [Zak x2, Zak (s5.get w2 (Own.lt w2))], ?_⟩
    refine key h6 _ _ _ S6 ?_ (by omega) (by omega)
    exact ⟨by rw [Zbb Zdd]; simp [hstl], .inr ⟨_, _, _, _, _, rfl, by omega, hi6, by simp [Zbb Zdd, hstl, eP]; omega, by
      rw [List.drop_zero, List.take_of_length_le (by simp [Zbb Zdd, hstl, eP]; omega)]; simp [Zeg, eP]⟩⟩
  · have s5 : Zbd h3.length h3 (h3 ++ [Zcg.cells Zab [.str n.1, .str n.2] false]) := Zam
    have b5 : (h3 ++ [Zcg.cells Zab [.str n.1, .str n.2] false])[h3.length]? = some (Zcg.cells Zab [.str n.1, .str n.2] false) := by simp
    simp only [Zax]
    refine ⟨by rw [Zak (s5.get q2 (Own.lt q2))]; rfl, ?_⟩
    refine (Zvz (row2.same' s5) he2 (by omega)).mono ?_
    rintro v h4 ⟨a', c', e', rfl, nv, s4, _⟩
    have S4 := s5.cat s4
    have w1 := S4.get q1 (Own.lt q1)
    have w2 := S4.get q2 (Own.lt q2)
    have b4 := s4.get b5 (Own.lt b5)
    simp only [Zaj]
    refine ⟨by rw [Zay w1, Zay (s5.get q1 (Own.lt q1))], ?_⟩
    have hs4 := s4.le
    simp only [List.length_append, List.length_cons, List.length_nil] at hs4
    have hr4 : Row h4.length h4 (some (h3.length, 0)) (1 * 2) (Zeg eP [n]) := ⟨rfl, .inr ⟨h3.length, 0, _, _, _, rfl, by omega, b4, by simp, by simp [eP]⟩⟩
    refine nv.vec.app Zjz Zqk Zpp Zqc (by rw [Zbb Zdd, nv.len]) hr4.rowOf (Znx (enc := eP) (fun _ => rfl) _) (by omega) (by omega) (fun h6 hl6 hi6 hk6 => ?_)
    have hnl := nv.low
    simp only [List.length_append, List.length_cons, List.length_nil] at hnl
    have S6 : Zbd h3.length h3 h6 := ⟨by omega, fun j hj => by rw [hk6 j (by omega) fun q hq => by have := hnl q hq; omega]; exact S4.eq j hj⟩
    have x1 := S6.get q1 (Own.lt q1)
    have x2 := S6.get q2 (Own.lt q2)
    simp only [Zaj]
    refine ⟨by rw [Zay x1, Zay w1], by rw [Zak x2, Zak w2], ?_⟩
    refine key h6 _ _ _ S6 ?_ (by omega) (by omega)
    exact ⟨by rw [Zbb Zdd]; simp [hstl], .inr ⟨_, _, _, _, _, rfl, by omega, hi6, by simp [Zbb Zdd, hstl, eP]; omega, by
      rw [List.drop_zero, List.take_of_length_le (by simp [Zbb Zdd, hstl, eP]; omega)]; simp [Zeg, eP]⟩⟩
theorem Yfo {hb : Zaa} {a0 a1 : Pt} {n0 c0 n1 c1 : Nat} {e0 e1 : Bool} {w : Wd} (r : Zlx hb a0 n0 c0 a1 n1 c1 w) (b : WB w) (hw : Zdw w = true) (sp : Bool) (f : Nat)
    (ih : ∀ f', f = f' + 1 → Ysk f' hb a0 a1 n0 c0 n1 c1 e0 e1 w sp) : Ysk f hb a0 a1 n0 c0 n1 c1 e0 e1 w sp := by
  intro h i qa asked fl n a2 n2 c2 e2 st rd hlen hf row he2 hst
  apply Zci.call
  simp only [Zax]
  generalize hh0 : h ++ [Zcg.cells Zfo [.ptr (some (i, 0))] false] = h0
  generalize hh1 : h0 ++ [Zcg.cells Zab [.str n.1, .str n.2] false] = h1
  generalize hh2 : h1 ++ [Zcg.cells Zbm [.slice a2 n2 c2 e2] false] = h2
  have s0 : Zbd h.length h h0 := by rw [← hh0]; exact Zam
  have s1 : Zbd h0.length h0 h1 := by rw [← hh1]; exact Zam
  have s2 : Zbd h1.length h1 h2 := by rw [← hh2]; exact Zam
  have l0 : h0.length = h.length + 1 := by rw [← hh0]; simp
  have l1 : h1.length = h0.length + 1 := by rw [← hh1]; simp
  have l2 : h2.length = h1.length + 1 := by rw [← hh2]; simp
  have p0 : h0[h.length]? = some (.cells Zfo [.ptr (some (i, 0))] false) := by rw [← hh0]; simp
  have p0 := s2.get (s1.get p0 (Own.lt p0)) (by have := Own.lt p0; omega)
  have p1 : h1[h0.length]? = some (.cells Zab [.str n.1, .str n.2] false) := by rw [← hh1]; simp
  have p1 := s2.get p1 (Own.lt p1)
  have p2 : h2[h1.length]? = some (.cells Zbm [.slice a2 n2 c2 e2] false) := by rw [← hh2]; simp
  have S2 := (s0.cat s1).cat s2
  have hil := rd.lt
  have hlow := rd.low
  have rd2 := rd.step S2
  obtain ⟨qn, qc, qe, x7, ho, hv⟩ := rd2.ob
  simp only [Zak p0, Zay p1, Zak ho, Nat.zero_add, List.getElem?_cons_succ, List.getElem?_cons_zero, Zeo, Zau, Yjw, Zas, Zah, Zan, Zai, Ypn, true_and, List.append_nil]
  apply Zlp.call
  simp only [Zax]
  generalize hh3 : h2 ++ [Zcg.cells Zab [.str n.1, .str n.2] false] = h3
  have s3 : Zbd h2.length h2 h3 := by rw [← hh3]; exact Zam
  have l3 : h3.length = h2.length + 1 := by rw [← hh3]; simp
  have S3 := S2.cat s3
  have p0 := s3.get p0 (Own.lt p0)
  have p1 := s3.get p1 (Own.lt p1)
  have p2 := s3.get p2 (Own.lt p2)
  have rd3 := rd2.step s3
  have ho := s3.get ho (Own.lt ho)
  have hv := hv.same s3
  have F3 : FrS i qa h h3 qa := FrS.of_same S3
  have hal := hv.len
  have row3 : Row h3.length h3 a2 (n2 * 2) (Zeg eP st) := row.same' S3
  simp only [Zde, Zah, Zai, Zap, Zan, Zak p0, Zak ho, Nat.zero_add, List.getElem?_cons_succ, List.getElem?_cons_zero, Zeo, Zau, Zaj, true_and]
  refine Zdi (fun hx => absurd hx (by decide)) (fun _ => ?_)
  refine Zar (fun h300 => ?_) (fun h300 => ?_)
  · rw [Yah (by omega)]
    refine Zag.mono ((Yds Ynp (by decide) rd3 p0 p1 p2 row3 he2 (by omega) (by omega)).mono fun x h' q => Yis.of F3 q) ?_
    rintro x h' q
    obtain ⟨qa', fl', rfl, q⟩ := q
    simp only [Zde, Zah, Zai, Zan]
    exact ⟨qa', fl', rfl, q⟩
  have h300' : ¬ 300 ≤ asked.length := by omega
  have s4 : Zbd h3.length h3 (h3 ++ [Zcg.cells Zab [.str n.1, .str n.2] false]) := Zam
  simp only [Zay p1, Zas, Zah, Zan, Zai, true_and]
  refine ⟨by rw [Zak (s4.get ho (Own.lt ho))]; rfl, by rw [Zak (s4.get p0 (Own.lt p0))]; rfl, by rw [Zak (s4.get p0 (Own.lt p0))]; rfl, ?_⟩
  refine hv.vec.pushN Zjz Zqk Zpp Zqc (by rw [Zbb Zdd, hv.len]) rfl (by omega) rfl (by omega) (fun h6 hl6 hi6 hk6 => ?_)
  have hqk : ∀ j, j < h3.length → h.length ≤ j → h6[j]? = h3[j]? := fun j hj1 hj2 => hk6 j hj1 fun q hq => by have := (hlow q hq).2; omega
  have z0 : h6[h.length]? = some (.cells Zfo [.ptr (some (i, 0))] false) := by rw [hqk _ (Own.lt p0) (by omega)]; exact p0
  have z1 : h6[h0.length]? = some (.cells Zab [.str n.1, .str n.2] false) := by rw [hqk _ (Own.lt p1) (by omega)]; exact p1
  have z2 : h6[h1.length]? = some (.cells Zbm [.slice a2 n2 c2 e2] false) := by rw [hqk _ (Own.lt p2) (by omega)]; exact p2
  have zo : h6[i]? = some (.cells Zeu [.slice a0 n0 c0 e0, .slice a1 n1 c1 e1, .bool sp, .fn Zco [], .slice qa qn qc qe, .str fl.1, .str fl.2, x7] false) := by rw [hk6 i (Own.lt ho) fun q hq => (rd.ne q hq).symm]; exact ho
  simp only [Zaj, Zak z0, List.getElem?_cons_zero, Zau]
  refine ⟨by rw [Zak (s4.get p0 (Own.lt p0))]; rfl, by rw [Zak (s4.get p0 (Own.lt p0))]; rfl, ?_⟩
  rw [Zbv zo (by simp)]
  simp only [Zba, putRow, List.take_succ_cons, List.take_zero, List.length_cons, List.length_nil, List.drop_succ_cons, List.drop_zero, List.drop_nil, List.cons_append, List.nil_append, List.append_nil]
  have hle := rd.same.le
  have hS3 := S3.le
  have rd7 : Yai hb i (.slice a0 n0 c0 e0) (.slice a1 n1 c1 e1) sp (h6.set i (.cells Zeu [.slice a0 n0 c0 e0, .slice a1 n1 c1 e1, .bool sp, .fn Zco [], .slice (some (h3.length + 1, 0)) (qn + 1) (qn + 1) false, .str fl.1, .str fl.2, x7] false)) (some (h3.length + 1, 0)) (asked ++ [n]) fl := by
    refine Yai.write ⟨by omega, fun j hj => ?_⟩ rd.ge zo ⟨Vec.mk1 ?_, by rw [List.length_append, hal]; rfl, fun q hq => by cases hq; omega⟩ (fun q hq => by cases hq; omega)
    · rw [hk6 j (by omega) fun q hq => by have := (hlow q hq).1; omega]; exact rd3.same.eq j hj
    · rw [hi6, Zgt]; rfl
  have F7 : FrS i qa h (h6.set i (.cells Zeu [.slice a0 n0 c0 e0, .slice a1 n1 c1 e1, .bool sp, .fn Zco [], .slice (some (h3.length + 1, 0)) (qn + 1) (qn + 1) false, .str fl.1, .str fl.2, x7] false)) (some (h3.length + 1, 0)) := by
    refine FrS.trans (qa1 := some (h3.length + 1, 0)) ⟨by omega, fun j hj hne hq => ?_, .inr fun q hq => by cases hq; omega⟩ FrS.set
    rw [hk6 j (by omega) hq]; exact S3.eq j hj
  generalize hh7 : h6.set i (.cells Zeu [.slice a0 n0 c0 e0, .slice a1 n1 c1 e1, .bool sp, .fn Zco [], .slice (some (h3.length + 1, 0)) (qn + 1) (qn + 1) false, .str fl.1, .str fl.2, x7] false) = h7 at rd7 F7 ⊢
  have z0 : h7[h.length]? = some (.cells Zfo [.ptr (some (i, 0))] false) := by rw [← hh7, Zcv (by omega)]; exact z0
  have z1 : h7[h0.length]? = some (.cells Zab [.str n.1, .str n.2] false) := by rw [← hh7, Zcv (by omega)]; exact z1
  have z2 : h7[h1.length]? = some (.cells Zbm [.slice a2 n2 c2 e2] false) := by rw [← hh7, Zcv (by omega)]; exact z2
  have hl7 : h7.length = h3.length + 2 := by rw [← hh7]; simpa using hl6
  have row7 := F7.row row fun j o hn ha => hst j o (by omega) ha
  have hstl : n2 ≤ 31 := by omega
  -- an end of the search
  have bad : ∀ (y : List Nat) (h' : Zaa), (y ≠ [] ∧ y ≠ Zui) → Zbd h7.length h7 h' → Zow (wk w) sp Zpw f asked n = (.no y n, asked ++ [n]) → Zag pg Zcn [.str y, .ptr (some (h0.length, 0)), .ptr (some (h1.length, 0)), .ptr (some (h.length, 0))] h' fun v h'' =>
      Zjg v fun cs => Zad cs fun c r => Zaz (some c) fun s => Zad r fun c' r' => Zaz (some c') fun s' => Zbl r' (Yis hb i (.slice a0 n0 c0 e0) (.slice a1 n1 c1 e1) sp h qa (Zow (wk w) sp Zpw f asked n) (.tup [.str s, .str s']) h'') := by
    intro y h' hy sm he
    refine (Yds y hy (rd7.step sm) (sm.get z0 (Own.lt z0)) (sm.get z1 (Own.lt z1)) (sm.get z2 (Own.lt z2)) (row7.same' sm) he2 (by omega) (by omega)).mono ?_
    rintro x h'' q
    obtain ⟨qa', fl', rfl, z⟩ := Yis.of (F7.trans (FrS.of_same sm)) q
    simp only [Zde, Zah, Zai, Zan]
    rw [he]
    exact ⟨qa', fl', rfl, z⟩
  simp only [Zak z2, List.getElem?_cons_zero, Zaj]
  refine Zar (fun hd => ?_) (fun hd => ?_)
  · have : f = 0 := by omega
    subst this
    exact bad Ymu h7 (by decide) (Zbd.refl _ _) (Yab h300')
  obtain ⟨f', rfl⟩ : ∃ f', f = f' + 1 := ⟨f - 1, by omega⟩
  have ih := @ih f' rfl
  obtain ⟨qn7, qc7, qe7, x77, o7, v7⟩ := rd7.ob
  simp only [Zak z0, List.getElem?_cons_zero, Zeo, Zau, Zds o7 (show 0 + 0 + 2 ≤ _ by simp), Nat.zero_add, Zay z1, List.drop_zero, List.take_succ_cons, List.take_zero, Zas, Zah, Zan, Zaj, Zai, true_and]
  refine (Zzm (nd := n) (r.same rd7.same) b).mono ?_
  rintro v h8 ⟨s8, ca, cn, cc, ce, rfl, fc⟩
  have rd8 := rd7.step s8
  have F8 := F7.trans (FrS.of_same s8)
  have w0 := s8.get z0 (Own.lt z0)
  have w1 := s8.get z1 (Own.lt z1)
  have w2 := s8.get z2 (Own.lt z2)
  have o8 := s8.get o7 (Own.lt o7)
  have l8 := s8.le
  have hcl := fc.1
  have hcin := Zzy w n
  have hpk : Zgj (wk w) sp n = match Zir w n with | [] => (-1, Yko) | [x] => (x, []) | l => if sp && decide (0 ≤ Znd w l) then (Znd w l, []) else (-1, Zxs) := rfl
  simp only [Zaj, Zak w0, List.getElem?_cons_zero, true_and]
  refine Zfq (fun hc0 => ?_) (fun hc0 => ?_)
  · have hc : Zir w n = [] := List.eq_nil_of_length_eq_zero (by omega)
    rw [hc] at hpk
    exact bad Yko h8 (by decide) s8 (by rw [Zsq h300' (by rw [hpk]; simp only; omega), hpk])
  obtain ⟨ic, oc, hkc, rfl, _, hcell⟩ := Row.i64 (l := Zir w n) (by simpa using Zeb.row Zsj fc) (k := 0) (by omega)
  have hcell0 : Zae h8 (.ptr (some (ic, oc + (Int.toNat 0) * 1))) = some (.int .i64 (Zir w n)[0]) := hcell
  obtain ⟨k0, hk0, hk0l⟩ := hcin _ (List.getElem_mem hkc)
  simp only [Zau, hcell0, Zav]
  refine ⟨by omega, ?_⟩
  have hqa7 : ∀ q, some (h3.length + 1, 0) = some (q, 0) → h.length ≠ q := fun q hq => by cases hq; omega
  have go : ∀ (h' : Zaa) (k : Nat), Zbd h7.length h7 h' → k < w.is.length → (Zgj (wk w) sp n).1 = (k : Int) → Zci.J18 (Yis hb i (.slice a0 n0 c0 e0) (.slice a1 n1 c1 e1) sp h qa (Zow (wk w) sp Zpw (f' + 1) asked n)) h.length 0 (k : Int) h0.length 0 h0.length 0 h1.length 0 h.length 0 h1.length 0 h' := by
    intro h' k sm hk hp
    exact Ysv r b hw sp f' ih (rd7.step sm) h300' (by omega) (row7.same' sm) he2 (sm.get z0 (Own.lt z0)) (sm.get z1 (Own.lt z1)) (sm.get z2 (Own.lt z2)) (by omega) hqa7 hk hp _ fun x h'' q => Yis.of (F7.trans (FrS.of_same sm)) q
  refine Zar (fun h1n => ?_) (fun h1n => ?_)
  · have hpk : Zgj (wk w) sp n = if sp && decide (0 ≤ Znd w (Zir w n)) then (Znd w (Zir w n), []) else (-1, Zxs) := by
      rw [hpk]
      match hc : Zir w n with
      | [] => rw [hc] at hcl; simp at hcl; omega
      | [x] => rw [hc] at hcl; simp at hcl; omega
      | x :: y :: l => rfl
    simp only [Zeo, Zau, Zds o8 (show 0 + 2 ≤ _ by simp), List.drop_zero, List.take_succ_cons, List.take_zero, Zas, Zah, Zan, Zaj]
    have hcn : cn ≤ 1048576 := by have := Zzl (Zmf n) w.is; have := b.li; unfold Zir at hcl; omega
    refine (Yoh (r.same rd8.same) (by simpa using Zeb.row Zsj fc) hcn hcin).mono ?_
    rintro v h9 ⟨rfl, s9⟩
    have v0 := s9.get w0 (Own.lt w0)
    have o9 := s9.get o8 (Own.lt o8)
    have S9 := s8.cat s9
    simp only [Zav, Zak v0, Zak o9, List.getElem?_cons_succ, List.getElem?_cons_zero, Zeo, Zau, Zap]
    refine Zbp (fun hsp => ?_) (fun hsp => ?_)
    · have hpk : Zgj (wk w) sp n = (-1, Zxs) := by rw [hpk, hsp]; rfl
      exact bad Zxs h9 (by decide) S9 (by rw [Zsq h300' (by rw [hpk]; simp only; omega), hpk])
    · refine Zar (fun hneg => ?_) (fun hneg => ?_)
      · have hpk : Zgj (wk w) sp n = (-1, Zxs) := by rw [hpk, hsp, if_neg (by simp; omega)]
        exact bad Zxs h9 (by decide) S9 (by rw [Zsq h300' (by rw [hpk]; simp only; omega), hpk])
      · have hpk : Zgj (wk w) sp n = (Znd w (Zir w n), []) := by rw [hpk, hsp, if_pos (by simp; omega)]
        obtain ⟨k, hk, hkl⟩ : ∃ k : Nat, Znd w (Zir w n) = k ∧ k < w.is.length := by
          unfold Znd at hneg ⊢
          cases hfi : (Zir w n).find? (Ycm w (Zir w n)) with
          | none => rw [hfi] at hneg; simp at hneg
          | some x => exact hcin x (List.mem_of_find?_eq_some hfi)
        rw [hk]
        exact go h9 k S9 hkl (by rw [hpk]; exact hk)
  · rw [hk0]
    refine go h8 k0 s8 hk0l ?_
    rw [hpk]
    match hc : Zir w n, hkc with
    | [x], _ =>
      simp only [hc] at hk0
      exact hk0
    | [], hx => simp at hx
    | x :: y :: l, _ => rw [hc] at hcl; simp at hcl; omega
theorem Yph {hb : Zaa} {a0 a1 : Pt} {n0 c0 n1 c1 : Nat} {e0 e1 : Bool} {w : Wd} (r : Zlx hb a0 n0 c0 a1 n1 c1 w) (b : WB w) (hw : Zdw w = true) (sp : Bool) : ∀ f, Ysk f hb a0 a1 n0 c0 n1 c1 e0 e1 w sp
  | 0 => Yfo r b hw sp 0 fun f' h => by omega
  | f + 1 => Yfo r b hw sp (f + 1) fun f' h => by cases h; exact Yph r b hw sp f
end Go.Sim

set_option linter.unusedVariables false
set_option linter.unusedSimpArgs false
set_option maxRecDepth 20000
namespace Go.Sim
open Go Go.RowKit

noncomputable def Zqa (w : Wd) (n : Nd) (sp : Bool) : Fnd := if Zdw w && Zfk w n then (Zow (wk w) sp Zpw 31 [] n).1 else .no Zui ([], [])
theorem Ydu {h : Zaa} {a0 a1 : Pt} {n0 c0 n1 c1 : Nat} {e0 e1 : Bool} {w : Wd} {nd : Nd} {sp : Bool} (r : Zlx h a0 n0 c0 a1 n1 c1 w) (b : WB w) :
    Zag pg Zmm [.agg [.slice a0 n0 c0 e0, .slice a1 n1 c1 e1], .agg [.str nd.1, .str nd.2], .bool sp] h fun x h' => ∃ i fl x4 x7, x = .tup [.ptr (some (i, 0)), .str (Yqu (Zqa w nd sp)), .str (Yso (Zqa w nd sp))] ∧ Zbd h.length h h' ∧
      h'[i]? = some (.cells Zeu [.slice a0 n0 c0 e0, .slice a1 n1 c1 e1, .bool sp, .fn Zco [], x4, .str fl.1, .str fl.2, x7] false) ∧ h.length ≤ i ∧ ∀ y m, Zqa w nd sp = .no y m → y ≠ [] ∧ (((Zdw w && Zfk w nd) = false ∧ y = Zui) ∨ ((Zdw w && Zfk w nd) = true ∧ y ≠ Zui ∧ fl = m)) := by
  apply Zqi.call
  simp only [Zax]
  generalize hh0 : h ++ [Zcg.cells Zal [.slice a0 n0 c0 e0, .slice a1 n1 c1 e1] false] = h0
  generalize hh1 : h0 ++ [Zcg.cells Zab [.str nd.1, .str nd.2] false] = h1
  have s0 : Zbd h.length h h0 := by rw [← hh0]; exact Zam
  have s1 : Zbd h0.length h0 h1 := by rw [← hh1]; exact Zam
  have w0 : h0[h.length]? = some (Zok a0 n0 c0 e0 a1 n1 c1 e1) := by rw [← hh0]; simp [Zok]
  have w1 := s1.get w0 (Own.lt w0)
  have p1 : h1[h0.length]? = some (.cells Zab [.str nd.1, .str nd.2] false) := by rw [← hh1]; simp
  rw [Zyv w1]
  simp only [Zas, Zah, Zan, Zaj]
  generalize hh2 : h1 ++ [Zcg.cells Zeu [.slice a0 n0 c0 e0, .slice a1 n1 c1 e1, .bool sp, .fn Zco [], .slice none 0 0 true, .str [], .str [], .slice none 0 0 true] false] = h2
  have s2 : Zbd h1.length h1 h2 := by rw [← hh2]; exact Zam
  have w2 := s2.get w1 (Own.lt w1)
  have p2 := s2.get p1 (Own.lt p1)
  have o2 : h2[h1.length]? = some (.cells Zeu [.slice a0 n0 c0 e0, .slice a1 n1 c1 e1, .bool sp, .fn Zco [], .slice none 0 0 true, .str [], .str [], .slice none 0 0 true] false) := by rw [← hh2]; simp
  have S2 := (s0.cat s1).cat s2
  rw [Zyv w2, Zay p2]
  simp only [Zas, Zah, Zan, Zaj, Zai]
  refine (Zzf (ct := nd.1) (tt := nd.2) (r.same S2) b).mono ?_
  rintro v h3 ⟨rfl, s3⟩
  have S3 := S2.cat s3
  have p3 := s3.get p2 (Own.lt p2)
  have o3 := s3.get o2 (Own.lt o2)
  have w3 := s3.get w2 (Own.lt w2)
  have le3 := S3.le
  have l1 : h1.length = h0.length + 1 := by rw [← hh1]; simp
  have l0 : h0.length = h.length + 1 := by rw [← hh0]; simp
  simp only [Zap]
  refine Zbp (fun hc => ?_) (fun hc => ?_)
  · have : Zqa w nd sp = .no Zui ([], []) := by unfold Zqa; rw [hc]; rfl
    exact ⟨h1.length, ([], []), _, _, by rw [this]; rfl, S3, o3, by omega, fun y m h => by rw [this] at h; cases h; exact ⟨by decide, .inl ⟨hc, rfl⟩⟩⟩
  rw [Zay p3]
  simp only [Zas, Zah, Zan, Zai]
  have hc' := hc
  simp only [Bool.and_eq_true] at hc'
  have rd : Yai h h1.length (.slice a0 n0 c0 e0) (.slice a1 n1 c1 e1) sp h3 none [] (([], []) : Nd) :=
    ⟨S3, by omega, ⟨0, 0, true, _, o3, ⟨.inl ⟨rfl, rfl, rfl, by simp⟩, rfl, fun q hq => by cases hq⟩⟩, fun q hq => by cases hq⟩
  refine (Yph r b hc'.1 sp 31 (n := nd) (st := []) rd (by simp) (by omega) (by simpa using Row.nil) (fun _ => rfl) (fun j o h => by omega)).mono ?_
  rintro v h4 ⟨qa, fl, rfl, rd4, F4, hno⟩
  have hf : Zqa w nd sp = (Zow (wk w) sp Zpw 31 [] nd).1 := by unfold Zqa; rw [hc]; rfl
  obtain ⟨qn, qc, qe, x7, ho, _⟩ := rd4.ob
  simp only [Zde, Zah, Zai, Zan]
  refine ⟨h1.length, fl, _, x7, by rw [hf], rd4.same, ho, by omega, fun y m hy => ?_⟩
  rw [hf] at hy
  obtain ⟨⟨k1, k2⟩, k3⟩ := hno y m hy
  exact ⟨k1, .inr ⟨hc, k2, k3⟩⟩
noncomputable def Zge (w : Wd) (n : Nd) : Nd × Bool := if Zdw w && Zfk w n then (match Zqa w n false with | .ok _ => (([], []), false) | .no _ m => (m, true)) else (([], []), false)
theorem Zng {h : Zaa} {a0 a1 : Pt} {n0 c0 n1 c1 : Nat} {e0 e1 : Bool} {w : Wd} {nd : Nd} (r : Zlx h a0 n0 c0 a1 n1 c1 w) (b : WB w) :
    Zag pg Zbx [.agg [.slice a0 n0 c0 e0, .slice a1 n1 c1 e1], .agg [.str nd.1, .str nd.2]] h fun v h' => v = .tup [.agg [.str (Zge w nd).1.1, .str (Zge w nd).1.2], .bool (Zge w nd).2] ∧ Zbd h.length h h' := by
  apply Zjn.call
  simp only [Zax]
  generalize hh0 : h ++ [Zcg.cells Zal [.slice a0 n0 c0 e0, .slice a1 n1 c1 e1] false] = h0
  generalize hh1 : h0 ++ [Zcg.cells Zab [.str nd.1, .str nd.2] false] = h1
  generalize hh2 : h1 ++ [Zcg.cells Zab [.str [], .str []] false] = h2
  have s0 : Zbd h.length h h0 := by rw [← hh0]; exact Zam
  have s1 : Zbd h0.length h0 h1 := by rw [← hh1]; exact Zam
  have s2 : Zbd h1.length h1 h2 := by rw [← hh2]; exact Zam
  have w0 : h0[h.length]? = some (Zok a0 n0 c0 e0 a1 n1 c1 e1) := by rw [← hh0]; simp [Zok]
  have w1 := s1.get w0 (Own.lt w0)
  have w2 := s2.get w1 (Own.lt w1)
  have p1 : h1[h0.length]? = some (.cells Zab [.str nd.1, .str nd.2] false) := by rw [← hh1]; simp
  have p2 := s2.get p1 (Own.lt p1)
  have o2 : h2[h1.length]? = some (.cells Zab [.str [], .str []] false) := by rw [← hh2]; simp
  have S2 := (s0.cat s1).cat s2
  have l1 : h1.length = h0.length + 1 := by rw [← hh1]; simp
  have l0 : h0.length = h.length + 1 := by rw [← hh0]; simp
  rw [Zyv w2, Zay p2]
  simp only [Zas, Zah, Zan, Zaj, Zai]
  refine (Ydu (sp := false) (nd := nd) (r.same S2) b).mono ?_
  rintro v h3 ⟨i, fl, x4, x7, rfl, s3, ho, hi, hno⟩
  have S3 := S2.cat s3
  have o3 := s3.get o2 (Own.lt o2)
  have hset : ∀ x, Zbd h.length h (h3.set h1.length x) := fun x => ⟨by simp; exact S3.le, fun j hj => by rw [Zcv (by omega)]; exact S3.eq j hj⟩
  have hrow : ∀ x y : List Nat, Zaw (h3.set h1.length (.cells Zab [.str x, .str y] false)) (.ptr (some (h1.length, 0))) 2 = some [.str x, .str y] := fun x y => Zay (Zdq o3)
  simp only [Zde, Zah, Zeo, Zai, Zan]
  cases hf : Zqa w nd false with
  | ok s =>
    have hF : Zge w nd = (([], []), false) := by unfold Zge; rw [hf]; split <;> rfl
    refine Zar (fun _ => ?_) (fun hne => absurd rfl hne)
    rw [Zbv o3 (by simp)]
    simp only [Zba, putRow, List.take_zero, List.length_cons, List.length_nil, List.drop_succ_cons, List.drop_zero, List.drop_nil, List.nil_append, List.append_nil, hrow, Zas, Zah, Zan, Zai]
    exact ⟨by rw [hF], hset _⟩
  | no y m =>
    obtain ⟨hy, hor⟩ := hno y m hf
    refine Zar (fun he => absurd he hy) (fun _ => ?_)
    rcases hor with ⟨hc, rfl⟩ | ⟨hc, hyw, rfl⟩
    · have hF : Zge w nd = (([], []), false) := by unfold Zge; rw [hc]; rfl
      refine Zar (fun _ => ?_) (fun hne => absurd rfl hne)
      rw [Zbv o3 (by simp)]
      simp only [Zba, putRow, List.take_zero, List.length_cons, List.length_nil, List.drop_succ_cons, List.drop_zero, List.drop_nil, List.nil_append, List.append_nil, hrow, Zas, Zah, Zan, Zai]
      exact ⟨by rw [hF], hset _⟩
    · have hF : Zge w nd = (fl, true) := by unfold Zge; rw [hc, hf]; rfl
      refine Zar (fun he => absurd he hyw) (fun _ => ?_)
      apply Zjn.J4i
      simp only [Zau, Zds ho (show 0 + 5 + 2 ≤ _ by simp), Nat.zero_add, List.drop_succ_cons, List.drop_zero, List.take_succ_cons, List.take_zero, Zas, Zah, Zan, Zai]
      rw [Zbv o3 (by simp)]
      simp only [Zba, putRow, List.take_zero, List.length_cons, List.length_nil, List.drop_succ_cons, List.drop_zero, List.drop_nil, List.nil_append, List.append_nil, hrow, Zas, Zah, Zan, Zai]
      exact ⟨by rw [hF], hset _⟩
end Go.Sim

set_option linter.unusedVariables false
set_option linter.unusedSimpArgs false
set_option maxRecDepth 20000
namespace Go.Sim
open Go Go.RowKit

theorem Ycv {b : Nat} {h : Zaa} {a : Pt} {n c k : Nat} {e : Bool} {l : List Nd} {K : Zaq → Prop} (r : Row b h a (n * 2) (Zeg eP l)) (hk : k ≤ n) (hc : n ≤ c) {z : Int} (hz : z = k)
    (hK : ∀ a' c' e', Row b h a' (k * 2) (Zeg eP (l.take k)) → k ≤ c' → (a' = none ∨ ∃ i o, a = some (i, o) ∧ a' = some (i, o)) → K (.slice a' k c' e')) : Zjr a n c e 2 none (some (.int .i64 z)) none K := by
  subst hz
  have hl : l.length = n := by have := r.1; rw [Zbb Zdd] at this; omega
  simp only [Zjr, Zld]
  refine ⟨by omega, ?_⟩
  split
  · have h0 : n = 0 := by
      obtain ⟨h1, h2⟩ := r
      rcases h2 with h2 | ⟨i, o, t, all, ro, ha, _⟩
      · omega
      · cases ha
    have hk0 : k = 0 := by omega
    subst hk0
    exact ⟨⟨by trivial, by simp, .inl (by trivial)⟩, hK _ _ _ (by simpa using Row.nil) (by omega) (.inl rfl)⟩
  · rename_i i o
    refine ⟨fun hlt => ?_, fun hlt => ?_⟩
    · have e2 : ((k : Int) - 0).toNat = k := by omega
      have e3 : o + Int.toNat 0 * 2 = o := by simp
      have e4 : ((c : Int) - 0).toNat = c := by omega
      rw [e2, e3, e4]
      exact hK _ _ _ (r.sl hk hl) (by omega) (.inr ⟨_, _, rfl, rfl⟩)
    · have hk0 : k = 0 := by omega
      subst hk0
      exact hK _ _ _ (by simpa using Row.nil) (by omega) (.inl rfl)
structure Ztk (hb : Zaa) (i : Nat) (u v : Zaq) (sp : Bool) (h : Zaa) (qa : Pt) (asked st : List Nd) (why : List Nat) : Prop where
  same : Zbd hb.length hb h
  ge : hb.length ≤ i
  ob : ∃ qn qc qe sa sn sc se, h[i]? = some (.cells Zcp [u, v, .bool sp, .slice qa qn qc qe, .slice sa sn sc se, .str why] false) ∧ Ylm hb.length h qa qn qc asked ∧ Row h.length h sa (sn * 2) (Zeg eP st) ∧ sn ≤ sc ∧ ∀ j o, sn * 2 ≠ 0 → sa = some (j, o) → j ≠ i ∧ ∀ q, qa = some (q, 0) → j ≠ q
  ne : ∀ q, qa = some (q, 0) → q ≠ i
section
variable {hb : Zaa} {i : Nat} {u v : Zaq} {sp : Bool} {h : Zaa} {qa : Pt} {asked st : List Nd} {why : List Nat}
theorem Ztk.step {h' : Zaa} (r : Ztk hb i u v sp h qa asked st why) (k : Zbd h.length h h') : Ztk hb i u v sp h' qa asked st why := by
  obtain ⟨qn, qc, qe, sa, sn, sc, se, ho, hv, hr, hsc, hd⟩ := r.ob
  exact ⟨r.same.trans (k.mono r.same.le), r.ge, ⟨qn, qc, qe, sa, sn, sc, se, k.get ho (Own.lt ho), hv.same k, hr.same' k, hsc, hd⟩, r.ne⟩
theorem Ztk.lt (r : Ztk hb i u v sp h qa asked st why) : i < h.length := by obtain ⟨_, _, _, _, _, _, _, ho, _⟩ := r.ob; exact Own.lt ho
theorem Ztk.low (r : Ztk hb i u v sp h qa asked st why) : ∀ q, qa = some (q, 0) → hb.length ≤ q ∧ q < h.length := by
  obtain ⟨qn, qc, qe, sa, sn, sc, se, ho, hv, _⟩ := r.ob
  exact fun q hq => ⟨hv.low q hq, hv.vec.lt' hq⟩
theorem Ztk.write {qa' sa : Pt} {qn qc sn sc : Nat} {qe se : Bool} {x : Zcg} {l st' : List Nd} {why' : List Nat} (sm : Zbd hb.length hb h) (ge : hb.length ≤ i) (ho : h[i]? = some x)
    (hv : Ylm hb.length h qa' qn qc l) (ne : ∀ q, qa' = some (q, 0) → q ≠ i) (hr : Row h.length h sa (sn * 2) (Zeg eP st')) (hsc : sn ≤ sc) (hd : ∀ j o, sn * 2 ≠ 0 → sa = some (j, o) → j ≠ i ∧ ∀ q, qa' = some (q, 0) → j ≠ q) :
    Ztk hb i u v sp (h.set i (.cells Zcp [u, v, .bool sp, .slice qa' qn qc qe, .slice sa sn sc se, .str why'] false)) qa' l st' why' := by
  refine ⟨⟨by simp; exact sm.le, fun j hj => by rw [Zcv (by omega)]; exact sm.eq j hj⟩, ge, ⟨qn, qc, qe, sa, sn, sc, se, Zdq ho, ⟨?_, hv.len, hv.low⟩, ?_, hsc, hd⟩, ne⟩
  · exact hv.vec.agree fun j hj => Zcv (fun e => ne j hj e.symm)
  · exact (FrS.set (qa := none)).row hr fun j o hn ha => ⟨(hd j o hn ha).1, fun q hq => by cases hq⟩
theorem Ztk.reason (r : Ztk hb i u v sp h qa asked st why) (y : List Nat) {K : Zaa → Prop} (hK : ∀ h', Ztk hb i u v sp h' qa asked st y → FrS i qa h h' qa → K h') : Zbw (Zbc h (.ptr (some (i, 0 + 5))) [.str y]) K := by
  obtain ⟨qn, qc, qe, sa, sn, sc, se, ho, hv, hr, hsc, hd⟩ := r.ob
  rw [Zbv ho (by simp)]
  simp only [Zba, putRow, Nat.zero_add, List.take_succ_cons, List.take_zero, List.length_cons, List.length_nil, List.drop_succ_cons, List.drop_zero, List.drop_nil, List.cons_append, List.nil_append, List.append_nil]
  exact hK _ (Ztk.write r.same r.ge ho hv r.ne hr hsc hd) FrS.set
def Yox (hb : Zaa) (i : Nat) (u v : Zaq) (sp : Bool) (d : Nat) (h : Zaa) (qa : Pt) (r : Fnd × List Nd) (x : Zaq) (h' : Zaa) : Prop :=
  x = .str (Yqu r.1) ∧ ∃ qa' st', Ztk hb i u v sp h' qa' r.2 st' (Yso r.1) ∧ FrS i qa h h' qa' ∧ st'.length ≤ 32 ∧ (∀ s, r.1 = .ok s → st'.length = d + 1) ∧ ∀ y m, r.1 = .no y m → y ≠ [] ∧ st'.getLast? = some m
end
theorem Yij {hb : Zaa} {a0 a1 : Pt} {n0 c0 n1 c1 : Nat} {e0 e1 : Bool} {w : Wd} (r : Zlx hb a0 n0 c0 a1 n1 c1 w) (b : WB w) {sp : Bool} {h : Zaa} {i : Nat} {qa : Pt} {asked st : List Nd} {n : Nd}
    (rd : Ztk hb i (.slice a0 n0 c0 e0) (.slice a1 n1 c1 e1) sp h qa asked st []) (hw : Zdw w = true) (hnd : Zfk w n = true) :
    Zag pg Zel [.ptr (some (i, 0)), .agg [.str n.1, .str n.2]] h fun x h' => x = .int .i64 (Zgj (wk w) sp n).1 ∧ Ztk hb i (.slice a0 n0 c0 e0) (.slice a1 n1 c1 e1) sp h' qa asked st (if (Zgj (wk w) sp n).1 < 0 then (Zgj (wk w) sp n).2 else []) ∧ FrS i qa h h' qa ∧ ((Zgj (wk w) sp n).1 < 0 → (Zgj (wk w) sp n).2 ≠ []) ∧ (¬ (Zgj (wk w) sp n).1 < 0 → ∃ k : Nat, (Zgj (wk w) sp n).1 = k ∧ k < w.is.length) := by
  have hty := Zys hnd
  apply Zgc.call
  simp only [Zax]
  generalize hh0 : h ++ [Zcg.cells Zab [.str n.1, .str n.2] false] = h0
  have s0 : Zbd h.length h h0 := by rw [← hh0]; exact Zam
  have p1 : h0[h.length]? = some (.cells Zab [.str n.1, .str n.2] false) := by rw [← hh0]; simp
  have rd0 := rd.step s0
  obtain ⟨qn, qc, qe, sa, sn, sc, se, ho, hv, hr, hsc, hd⟩ := rd0.ob
  simp only [Zau, Zds ho (show 0 + 0 + 2 ≤ _ by simp), Zay p1, List.drop_zero, List.take_succ_cons, List.take_zero, Zas, Zah, Zan, Zaj, Zai, true_and]
  refine (Zrp (nd := n) (r.same rd0.same) b (by omega)).mono ?_
  rintro v h4 ⟨s4, ca, cn, cc, ce, rfl, fc⟩
  have rd4 := rd0.step s4
  have F4 : FrS i qa h h4 qa := FrS.of_same (s0.cat s4)
  have o4 := s4.get ho (Own.lt ho)
  have q1 := s4.get p1 (Own.lt p1)
  have hcl := fc.1
  have hcin := Zzy w n
  have hpk : Zgj (wk w) sp n = match Zir w n with | [] => (-1, Yko) | [x] => (x, []) | l => if sp && decide (0 ≤ Znd w l) then (Znd w l, []) else (-1, Zxs) := rfl
  simp only [Zaj, Zau]
  refine Zfq (fun hc0 => ?_) (fun hc0 => ?_)
  · have hc : Zir w n = [] := List.eq_nil_of_length_eq_zero (by omega)
    have hpk : Zgj (wk w) sp n = (-1, Yko) := by rw [hpk, hc]
    refine rd4.reason _ fun h5 rd5 F5 => ?_
    rw [hpk]
    exact ⟨rfl, rd5, F4.trans F5, fun _ => by decide, fun h => absurd (show (-1 : Int) < 0 by omega) h⟩
  refine Zfq (fun hc1 => ?_) (fun hc1 => ?_)
  · obtain ⟨ic, oc, hkc, rfl, _, hcell⟩ := Row.i64 (l := Zir w n) (by simpa using Zeb.row Zsj fc) (k := 0) (by omega)
    have hcell0 : Zae h4 (.ptr (some (ic, oc + (Int.toNat 0) * 1))) = some (.int .i64 (Zir w n)[0]) := hcell
    obtain ⟨k0, hk0, hk0l⟩ := hcin _ (List.getElem_mem hkc)
    have hpk : Zgj (wk w) sp n = ((k0 : Int), []) := by
      rw [hpk, ← hk0]
      match hc : Zir w n, hkc with
      | [x], _ => rfl
      | [], hx => simp at hx
      | x :: y :: l, _ => rw [hc] at hcl; simp at hcl; omega
    simp only [Zau, hcell0, Zav]
    rw [hpk, hk0]
    exact ⟨by omega, rfl, by simpa using rd4, F4, fun h => absurd h (by simp), fun _ => ⟨k0, rfl, hk0l⟩⟩
  have hpk : Zgj (wk w) sp n = if sp && decide (0 ≤ Znd w (Zir w n)) then (Znd w (Zir w n), []) else (-1, Zxs) := by
    rw [hpk]
    match hc : Zir w n with
    | [] => rw [hc] at hcl; simp at hcl; omega
    | [x] => rw [hc] at hcl; simp at hcl; omega
    | x :: y :: l => rfl
  have many : ∀ h5, Ztk hb i (.slice a0 n0 c0 e0) (.slice a1 n1 c1 e1) sp h5 qa asked st [] → FrS i qa h h5 qa → Zgj (wk w) sp n = (-1, Zxs) → Zgc.J11 (fun x h' => x = .int .i64 (Zgj (wk w) sp n).1 ∧ Ztk hb i (.slice a0 n0 c0 e0) (.slice a1 n1 c1 e1) sp h' qa asked st (if (Zgj (wk w) sp n).1 < 0 then (Zgj (wk w) sp n).2 else []) ∧ FrS i qa h h' qa ∧ ((Zgj (wk w) sp n).1 < 0 → (Zgj (wk w) sp n).2 ≠ []) ∧ (¬ (Zgj (wk w) sp n).1 < 0 → ∃ k : Nat, (Zgj (wk w) sp n).1 = k ∧ k < w.is.length)) (some (i, 0)) h5 := by
    intro h5 rd5 F5 hpk
    apply Zgc.J11i
    simp only [Zau]
    refine rd5.reason _ fun h6 rd6 F6 => ?_
    rw [hpk]
    exact ⟨rfl, rd6, F5.trans F6, fun _ => by decide, fun h => absurd (show (-1 : Int) < 0 by omega) h⟩
  simp only [Zak o4, Nat.zero_add, List.getElem?_cons_succ, List.getElem?_cons_zero, Zap]
  refine Zdi (fun hsp => ?_) (fun hsp => ?_)
  · simp only [Zds o4 (show 0 + 2 ≤ _ by simp), Zay q1, List.drop_zero, List.take_succ_cons, List.take_zero, Zas, Zah, Zan, Zaj, Zai, true_and]
    refine (Zwk (nd := n) (r.same rd4.same) b (by omega)).mono ?_
    rintro v h5 ⟨rfl, s5⟩
    have hm : Yhq w n = Znd w (Zir w n) := by unfold Yhq Ztt; rw [hw, hnd]; rfl
    rw [hm]
    simp only [Zav]
    refine Zar (fun hge => ?_) (fun hlt => ?_)
    · have hpk : Zgj (wk w) sp n = (Znd w (Zir w n), []) := by rw [hpk, hsp, if_pos (by simp; omega)]
      rw [hpk]
      refine ⟨rfl, ?_, F4.trans (FrS.of_same s5), fun h => absurd h (by simp only; omega), fun _ => ?_⟩
      · simp only
        rw [if_neg (by omega)]; exact rd4.step s5
      · simp only
        unfold Znd at hge ⊢
        cases hfi : (Zir w n).find? (Ycm w (Zir w n)) with
        | none => rw [hfi] at hge; simp at hge
        | some x => exact hcin x (List.mem_of_find?_eq_some hfi)
    · exact many h5 (rd4.step s5) (F4.trans (FrS.of_same s5)) (by rw [hpk, hsp, if_neg (by simp; omega)])
  · exact many h4 rd4 F4 (by rw [hpk, hsp]; rfl)
end Go.Sim
