/- The abstract operations look at their operands alone, and are monotone in what follows. -/
import Derived.Test.YtgiiilhdmfddcaaSimJ
set_option linter.unusedVariables false
set_option linter.all false
set_option linter.unusedSimpArgs false
namespace Go.Sim
open Go Go.RowKit

section
variable {P : Program} {K K' : AVal → AHeap → Prop} {k k' : AVal → Prop}

theorem xBool_mono {o : Option AVal} {K K' : Bool → Prop} (h : xBool o K) (m : ∀ b, K b → K' b) : xBool o K' := by
  unfold xBool at *; split at h <;> first | exact m _ h | exact h.elim
theorem xInt_mono {q : IntKind} {o : Option AVal} {K K' : Int → Prop} (h : xInt q o K) (m : ∀ b, K b → K' b) : xInt q o K' := by
  unfold xInt at *; split at h <;> first | exact ⟨h.1, m _ h.2⟩ | exact h.elim
theorem xStr_mono {o : Option AVal} {K K' : List Nat → Prop} (h : xStr o K) (m : ∀ b, K b → K' b) : xStr o K' := by
  unfold xStr at *; split at h <;> first | exact m _ h | exact h.elim
theorem xPtr_mono {o : Option AVal} {K K' : Option (Nat × Nat) → Prop} (h : xPtr o K) (m : ∀ b, K b → K' b) : xPtr o K' := by
  unfold xPtr at *; split at h <;> first | exact m _ h | exact h.elim
theorem xSl_mono {o : Option AVal} {K K' : Option (Nat × Nat) → Nat → Nat → Bool → Prop} (h : xSl o K) (m : ∀ a b c d, K a b c d → K' a b c d) : xSl o K' := by
  unfold xSl at *; split at h <;> first | exact m _ _ _ _ h | exact h.elim
theorem xMap_mono {o : Option AVal} {K K' : Option Nat → Prop} (h : xMap o K) (m : ∀ b, K b → K' b) : xMap o K' := by
  unfold xMap at *; split at h <;> first | exact m _ h | exact h.elim
theorem xAny_mono {o : Option AVal} (h : xAny o k) (m : ∀ b, k b → k' b) : xAny o k' := by
  unfold xAny at *; split at h <;> first | exact m _ h | exact h.elim
theorem xCons_mono {cs : List AVal} {K K' : AVal → List AVal → Prop} (h : xCons cs K) (m : ∀ a b, K a b → K' a b) : xCons cs K' := by
  unfold xCons at *; split at h <;> first | exact m _ _ h | exact h.elim
theorem xNil_mono {cs : List AVal} {K K' : Prop} (h : xNil cs K) (m : K → K') : xNil cs K' := by
  unfold xNil at *; split at h <;> first | exact m h | exact h.elim
theorem xRow_mono {o : Option (List AVal)} {K K' : List AVal → Prop} (h : xRow o K) (m : ∀ b, K b → K' b) : xRow o K' := by
  unfold xRow at *; split at h <;> first | exact m _ h | exact h.elim
theorem xHeap_mono {o : Option AHeap} {K K' : AHeap → Prop} (h : xHeap o K) (m : ∀ b, K b → K' b) : xHeap o K' := by
  unfold xHeap at *; split at h <;> first | exact m _ h | exact h.elim
theorem xAgg_mono {v : AVal} {K K' : List AVal → Prop} (h : xAgg v K) (m : ∀ b, K b → K' b) : xAgg v K' := by
  unfold xAgg at *; split at h <;> first | exact m _ h | exact h.elim
theorem xTup_mono {v : AVal} {K K' : List AVal → Prop} (h : xTup v K) (m : ∀ b, K b → K' b) : xTup v K' := by
  unfold xTup at *; split at h <;> first | exact m _ h | exact h.elim
theorem xField_mono {o : Option Field} {K K' : Field → Prop} (h : xField o K) (m : ∀ b, K b → K' b) : xField o K' := by
  unfold xField at *; split at h <;> first | exact m _ h | exact h.elim
theorem chk_mono {p : Prop} [Decidable p] {K K' : Prop} (h : chk p K) (m : K → K') : chk p K' := by
  unfold chk at *; split at h <;> first | exact m h | exact h.elim
theorem optInt_mono {o : Option AVal} {d : Int} {K K' : Int → Prop} (h : optInt o d K) (m : ∀ b, K b → K' b) : optInt o d K' := by
  unfold optInt at *; split at h <;> first | exact m _ h | exact h.elim
theorem bcase_mono {b : Bool} {A B A' B' : Prop} (h : bcase b A B) (m : A → A') (n : B → B') : bcase b A' B' := by
  unfold bcase at *; split at h <;> first | exact m h | exact n h
theorem xv_mono {s : Sh} {o : Option AVal} (h : xv s o k) (m : ∀ v, k v → k' v) : xv s o k' := by
  cases s <;> simp only [xv] at *
  · exact xBool_mono h fun _ => m _
  · exact xInt_mono h fun _ => m _
  · exact xStr_mono h fun _ => m _
  · exact xPtr_mono h fun _ => m _
  · exact xSl_mono h fun _ _ _ _ => m _
  · exact xMap_mono h fun _ => m _
  · exact xAny_mono h m
theorem xs_mono : ∀ {ss : List Sh} {cs : List AVal} {K K' : List AVal → Prop}, xs ss cs K → (∀ v, K v → K' v) → xs ss cs K'
  | [], _, _, _, h, m => xNil_mono h (m _)
  | _ :: _, _, _, _, h, m => xCons_mono h fun _ _ h => xv_mono h fun _ h => xs_mono h fun _ => m _
theorem xt_mono {t : TypeId} {v : AVal} (h : xt P t v k) (m : ∀ v, k v → k' v) : xt P t v k' := by
  unfold xt at *
  split at h
  · exact xAgg_mono h fun _ h => xs_mono h fun _ => m _
  · exact xv_mono h m
theorem xts_mono : ∀ {ts : List TypeId} {cs : List AVal} {K K' : List AVal → Prop}, xts P ts cs K → (∀ v, K v → K' v) → xts P ts cs K'
  | [], _, _, _, h, m => xNil_mono h (m _)
  | _ :: _, _, _, _, h, m => xCons_mono h fun _ _ h => xt_mono h fun _ h => xts_mono h fun _ => m _
theorem xres_mono {ts : List TypeId} {v : AVal} (h : xres P ts v k) (m : ∀ v, k v → k' v) : xres P ts v k' := by
  unfold xres at *
  split at h
  · exact m _ h
  · exact xt_mono h m
  · exact xTup_mono h fun _ h => xts_mono h fun _ => m _
theorem loadA_mono {t : TypeId} {h : AHeap} {p : AVal} (hh : loadA P t h p k) (m : ∀ v, k v → k' v) : loadA P t h p k' := by
  unfold loadA at *
  split at hh
  · exact xRow_mono hh fun _ h => xs_mono h fun _ => m _
  · exact xv_mono hh m
theorem storeA_mono {t : TypeId} {h : AHeap} {p v : AVal} {K K' : AHeap → Prop} (hh : storeA P t h p v K) (m : ∀ v, K v → K' v) : storeA P t h p v K' := by
  unfold storeA at *
  split at hh
  · split at hh
    · exact xHeap_mono hh m
    · exact hh.elim
  · exact hh.elim
theorem ptrEq_mono {a b : Option (Nat × Nat)} {K K' : Bool → Prop} (h : ptrEq a b K) (m : ∀ b, K b → K' b) : ptrEq a b K' := by
  unfold ptrEq at *
  split at h
  · exact m _ h
  · split at h
    · exact m _ h
    · exact h.elim
theorem xSome_mono {a : Option (Nat × Nat)} {K K' : Nat → Nat → Prop} (h : xSome a K) (m : ∀ b o, K b o → K' b o) : xSome a K' := by
  obtain ⟨b, o, rfl, h⟩ := xSome_elim h
  exact m _ _ h
theorem eqA_mono {t : TypeId} {x y : AVal} {K K' : Bool → Prop} (h : eqA P t x y K) (m : ∀ b, K b → K' b) : eqA P t x y K' := by
  unfold eqA at *
  split at h <;> (try exact h.elim) <;> split at h <;> (try exact h.elim)
  · exact chk_mono h (m _)
  · exact m _ h
  · exact chk_mono h (m _)
  · exact chk_mono h fun h => ptrEq_mono h m
  · split at h
    · exact m _ h
    · exact h.elim
  · exact chk_mono h fun h => ⟨h.1, m _ h.2⟩
theorem binA_mono {op : BinOp} {t : TypeId} {x y : AVal} (h : binA P op t x y k) (m : ∀ v, k v → k' v) : binA P op t x y k' := by
  unfold binA at *
  split at h
  · exact eqA_mono h fun _ => m _
  · exact eqA_mono h fun _ => m _
  · split at h
    · split at h
      · split at h <;> first
          | exact h.elim
          | exact chk_mono h (m _)
          | exact chk_mono h fun h => ⟨h.1, m _ h.2⟩
          | exact ⟨h.1, m _ h.2⟩
      · exact h.elim
    · split at h
      · split at h <;> first
          | exact h.elim
          | exact ⟨h.1, m _ h.2⟩
          | exact m _ h
      · exact h.elim
    · exact h.elim
theorem partA_mono {t : TypeId} {cs : List AVal} {off : Nat} (h : partA P t cs off k) (m : ∀ v, k v → k' v) : partA P t cs off k' := by
  unfold partA at *
  split at h
  · exact m _ h
  · exact chk_mono h fun h => xAny_mono h m
theorem lenA_mono {ts : Array TypeId} {xs : List AVal} (h : lenA P ts xs k) (m : ∀ v, k v → k' v) : lenA P ts xs k' := by
  unfold lenA at *
  split at h <;> first | exact h.elim | exact chk_mono h (m _)
theorem convA_mono {s d : TypeId} {x : AVal} (h : convA P s d x k) (m : ∀ v, k v → k' v) : convA P s d x k' := by
  unfold convA at *
  split at h
  · split at h <;> first | exact h.elim | exact chk_mono h (m _)
  · split at h <;> first | exact h.elim | exact chk_mono h (m _) | exact chk_mono h fun h => ⟨h.1, m _ h.2⟩
  · exact h.elim
theorem sliceA_mono {t : TypeId} {x : AVal} {lo hi mx : Option AVal} (h : sliceA P t x lo hi mx k) (m : ∀ v, k v → k' v) : sliceA P t x lo hi mx k' := by
  unfold sliceA at *
  split at h
  · split at h
    · exact chk_mono h fun h => optInt_mono h fun _ h => optInt_mono h fun _ h => ⟨h.1, m _ h.2⟩
    · exact h.elim
  · split at h
    · refine chk_mono h fun h => chk_mono h fun h => optInt_mono h fun _ h => optInt_mono h fun _ h => optInt_mono h fun _ h => ⟨h.1, ?_⟩
      have h2 := h.2
      split at h2
      · exact ⟨h2.1, m _ h2.2⟩
      · exact ⟨fun a => m _ (h2.1 a), fun a => m _ (h2.2 a)⟩
    · exact h.elim
  · exact h.elim
theorem pureA_mono {env : Env} {o : Oper} (h : pureA P env o k) (m : ∀ v, k v → k' v) : pureA P env o k' := by
  obtain ⟨dst, op, type, pos, after, guard⟩ := o
  unfold pureA at *
  cases op <;> simp only at h ⊢ <;> (try exact h.elim)
  case move x => exact m _ h
  case assign x => exact m _ h
  case pick c a b =>
    unfold pickA at *
    split at h
    · exact bcase_mono h (m _) (m _)
    · exact h.elim
  case nilCheck x =>
    unfold nilA at *
    split at h <;> first | exact h.elim | exact m _ h | exact xSome_mono h fun _ _ => m _
  case fieldAddr t x i =>
    unfold fieldAddrA at *
    split at h
    · exact xField_mono h fun _ h => chk_mono h fun h => chk_mono h fun h => xSome_mono h fun _ _ => m _
    · exact h.elim
  case field t x i =>
    unfold fieldA at *
    split at h
    · exact xField_mono h fun _ h => partA_mono h m
    · exact h.elim
  case indexAddr t x i =>
    unfold indexAddrA at *
    split at h
    · split at h
      · split at h <;> first | exact h.elim | exact chk_mono h fun h => ⟨h.1, xSome_mono h.2 fun _ _ => m _⟩
      · split at h <;> first | exact h.elim | exact chk_mono h fun h => ⟨h.1, xSome_mono h.2 fun _ _ => m _⟩
      · exact h.elim
    · exact h.elim
  case index t x i =>
    unfold indexA at *
    split at h
    · split at h
      · split at h
        · exact ⟨h.1, m _ h.2⟩
        · exact h.elim
      · split at h
        · exact chk_mono h fun h => ⟨h.1, partA_mono h.2 m⟩
        · exact h.elim
      · exact h.elim
    · exact h.elim
  case slice t x lo hi mx => exact sliceA_mono h m
  case binOp op t x y yt => exact binA_mono h m
  case unOp op t x =>
    unfold unA at *
    split at h
    · split at h <;> first | exact h.elim | exact m _ h
    · split at h <;> first | exact h.elim | exact m _ h
    · exact h.elim
  case convert s d x => exact convA_mono h m
  case extract x i =>
    unfold extractA at *
    split at h
    · exact xAny_mono h m
    · exact h.elim
  case makeFunc fn first caps =>
    cases fn <;> simp only at h ⊢ <;> first | exact h.elim | exact chk_mono h (m _)
  case call c =>
    split at h
    · exact lenA_mono h m
    · exact h.elim
theorem ownRow_mono {h : AHeap} {j : Nat} {e : TypeId} {A B : List AVal → Prop} (hh : ownRow h j e A) (m : ∀ cs, A cs → B cs) : ownRow h j e B := by
  unfold ownRow at *
  split at hh
  · exact ⟨hh.1, m _ hh.2⟩
  · exact hh.elim
theorem appendA_mono {t : TypeId} {h : AHeap} {s x : AVal} (hh : appendA P t h s x K) (m : ∀ v h, K v h → K' v h) : appendA P t h s x K' := by
  unfold appendA at *
  split at hh <;> (try exact hh.elim)
  split at hh <;> (try exact hh.elim)
  split at hh <;> (try exact hh.elim)
  refine xRow_mono hh fun new h => ⟨h.1, ?_⟩
  have h2 := h.2
  split at h2
  · exact ⟨fun a => m _ _ (h2.1 a), fun a => ⟨(h2.2 a).1, m _ _ (h2.2 a).2⟩⟩
  · rcases h2 with ⟨a, b⟩ | ⟨a, b⟩ | ⟨a, b⟩
    · exact .inl ⟨a, ownRow_mono b fun _ h => ⟨h.1, m _ _ h.2⟩⟩
    · exact .inr (.inl ⟨a, ownRow_mono b fun _ h => ⟨h.1, m _ _ h.2⟩⟩)
    · exact .inr (.inr ⟨a, xRow_mono b fun _ => m _ _⟩)
theorem bytesA_mono : ∀ {cs : List AVal} {K K' : List Nat → Prop}, bytesA cs K → (∀ s, K s → K' s) → bytesA cs K'
  | [], _, _, h, m => m _ h
  | .int k n :: r, _, _, h, m => by
    unfold bytesA at *
    exact chk_mono h fun h => ⟨h.1, bytesA_mono h.2 fun _ => m _⟩
  | .undef :: _, _, _, h, _ | .bool _ :: _, _, _, h, _ | .str _ :: _, _, _, h, _ | .ptr _ :: _, _, _, h, _ | .slice .. :: _, _, _, h, _ | .map _ :: _, _, _, h, _ | .fn .. :: _, _, _, h, _ | .nilFn :: _, _, _, h, _ | .iter _ :: _, _, _, h, _
  | .agg _ :: _, _, _, h, _ | .tup _ :: _, _, _, h, _ => by unfold bytesA at h; exact h.elim
theorem strA_mono {s d : TypeId} {h : AHeap} {x : AVal} {K K' : AVal → Prop} (hh : strA P s d h x K) (m : ∀ v, K v → K' v) : strA P s d h x K' := by
  unfold strA at *
  split at hh
  · refine chk_mono hh fun h => ?_
    split at h
    · exact xRow_mono h fun _ h => bytesA_mono h fun _ => m _
    · exact h.elim
  · exact hh.elim
theorem minA_mono {x y : AVal} {K K' : AVal → Prop} (hh : minA x y K) (m : ∀ v, K v → K' v) : minA x y K' := by
  unfold minA at *
  split at hh
  · split at hh
    · exact chk_mono hh (m _)
    · exact hh.elim
  · exact hh.elim
theorem makeSliceA_mono {t : TypeId} {a b : AVal} {h : AHeap} {K K' : AVal → AHeap → Prop} (hh : makeSliceA P t a b h K) (m : ∀ v h, K v h → K' v h) : makeSliceA P t a b h K' := by
  unfold makeSliceA at *
  split at hh
  · refine xRow_mono hh fun _ h => chk_mono h fun h => ?_
    unfold xInt at *
    split at h
    · refine ⟨h.1, ?_⟩
      replace h := h.2
      split at h
      · exact ⟨h.1, h.2.1, m _ _ h.2.2⟩
      · exact h.elim
    · exact h.elim
  · exact hh.elim
theorem opA_mono {env : Env} {h : AHeap} {o : Oper} (hh : opA P env h o K) (m : ∀ v h, K v h → K' v h) : opA P env h o K' := by
  obtain ⟨dst, op, type, pos, after, guard⟩ := o
  unfold opA at *
  cases op <;> simp only at hh ⊢
  case load t a => exact chk_mono hh fun h => loadA_mono h fun _ => m _ _
  case store t a x => exact chk_mono hh fun h => storeA_mono h fun _ => m _ _
  case alloc t => exact xRow_mono hh fun _ => m _ _
  case box t x => exact xRow_mono hh fun _ => m _ _
  case build t ps =>
    refine xRow_mono hh fun _ h => ?_
    split at h
    · exact chk_mono h fun h => xRow_mono h fun _ => m _ _
    · exact chk_mono h fun h => xRow_mono h fun _ => m _ _
    · exact h.elim
  case buildSlice t n ps =>
    unfold buildSliceA at *
    split at hh
    · exact xRow_mono hh fun _ h => chk_mono h fun h => xRow_mono h fun _ => m _ _
    · exact hh.elim
  case call c =>
    unfold callA at *
    split at hh
    · split at hh
      · exact SCall.mono hh fun _ _ h => xres_mono h fun _ => m _ _
      · exact hh.elim
    · split at hh
      · refine chk_mono hh fun h => ?_
        split at h
        · exact appendA_mono h fun _ _ h => xv_mono h fun _ => m _ _
        · exact h.elim
      · exact hh.elim
    · split at hh
      · exact minA_mono hh fun _ => m _ _
      · exact hh.elim
    · exact pureA_mono hh fun _ => m _ _
  case makeSlice t l c => exact makeSliceA_mono hh m
  case convert s d x =>
    split at hh
    · exact strA_mono hh fun _ => m _ _
    · exact pureA_mono hh fun _ => m _ _
  all_goals exact pureA_mono hh fun _ => m _ _
end
end Go.Sim
