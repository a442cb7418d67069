/- A part of the proof of a statement of this seat: see the text that holds the theorem. No condition. -/
import Derived.Test.YtlljbdepamknoaaGreatDoorSimJ
set_option linter.unusedVariables false
set_option linter.unusedSimpArgs false
set_option linter.all false
/- The abstract operations look at their operands alone, and are monotone in what follows. -/
set_option linter.unusedSimpArgs false
namespace Go.Sim
open Go Go.RowKit

section
variable {P : Program} {K K' : AVal → AHeap → Prop} {k k' : AVal → Prop}

theorem xBool_mono {o : Option AVal} {K K' : Bool → Prop} (h : xBool o K) (m : ∀ b, K b → K' b) : xBool o K' := by
  unfold xBool at *; split at h <;> first | exact m _ h | exact h.elim
theorem xInt_mono {q : IntKind} {o : Option AVal} {K K' : Int → Prop} (h : xInt q o K) (m : ∀ b, K b → K' b) : xInt q o K' := by
  unfold xInt at *; split at h <;> first | exact ⟨h.1, m _ h.2⟩ | exact h.elim
theorem xStr_mono {o : Option AVal} {K K' : List Nat → Prop} (h : xStr o K) (m : ∀ b, K b → K' b) : xStr o K' := by
  unfold xStr at *; split at h <;> first | exact m _ h | exact h.elim
theorem xPtr_mono {o : Option AVal} {K K' : Option (Nat × Nat) → Prop} (h : xPtr o K) (m : ∀ b, K b → K' b) : xPtr o K' := by
  unfold xPtr at *; split at h <;> first | exact m _ h | exact h.elim
theorem xSl_mono {o : Option AVal} {K K' : Option (Nat × Nat) → Nat → Nat → Bool → Prop} (h : xSl o K) (m : ∀ a b c d, K a b c d → K' a b c d) : xSl o K' := by
  unfold xSl at *; split at h <;> first | exact m _ _ _ _ h | exact h.elim
theorem xMap_mono {o : Option AVal} {K K' : Option Nat → Prop} (h : xMap o K) (m : ∀ b, K b → K' b) : xMap o K' := by
  unfold xMap at *; split at h <;> first | exact m _ h | exact h.elim
theorem xAny_mono {o : Option AVal} (h : xAny o k) (m : ∀ b, k b → k' b) : xAny o k' := by
  unfold xAny at *; split at h <;> first | exact m _ h | exact h.elim
theorem xCons_mono {cs : List AVal} {K K' : AVal → List AVal → Prop} (h : xCons cs K) (m : ∀ a b, K a b → K' a b) : xCons cs K' := by
  unfold xCons at *; split at h <;> first | exact m _ _ h | exact h.elim
theorem xNil_mono {cs : List AVal} {K K' : Prop} (h : xNil cs K) (m : K → K') : xNil cs K' := by
  unfold xNil at *; split at h <;> first | exact m h | exact h.elim
theorem xRow_mono {o : Option (List AVal)} {K K' : List AVal → Prop} (h : xRow o K) (m : ∀ b, K b → K' b) : xRow o K' := by
  unfold xRow at *; split at h <;> first | exact m _ h | exact h.elim
theorem xHeap_mono {o : Option AHeap} {K K' : AHeap → Prop} (h : xHeap o K) (m : ∀ b, K b → K' b) : xHeap o K' := by
  unfold xHeap at *; split at h <;> first | exact m _ h | exact h.elim
theorem xAgg_mono {v : AVal} {K K' : List AVal → Prop} (h : xAgg v K) (m : ∀ b, K b → K' b) : xAgg v K' := by
  unfold xAgg at *; split at h <;> first | exact m _ h | exact h.elim
theorem xTup_mono {v : AVal} {K K' : List AVal → Prop} (h : xTup v K) (m : ∀ b, K b → K' b) : xTup v K' := by
  unfold xTup at *; split at h <;> first | exact m _ h | exact h.elim
theorem xField_mono {o : Option Field} {K K' : Field → Prop} (h : xField o K) (m : ∀ b, K b → K' b) : xField o K' := by
  unfold xField at *; split at h <;> first | exact m _ h | exact h.elim
theorem chk_mono {p : Prop} [Decidable p] {K K' : Prop} (h : chk p K) (m : K → K') : chk p K' := by
  unfold chk at *; split at h <;> first | exact m h | exact h.elim
theorem optInt_mono {o : Option AVal} {d : Int} {K K' : Int → Prop} (h : optInt o d K) (m : ∀ b, K b → K' b) : optInt o d K' := by
  unfold optInt at *; split at h <;> first | exact m _ h | exact h.elim
theorem bcase_mono {b : Bool} {A B A' B' : Prop} (h : bcase b A B) (m : A → A') (n : B → B') : bcase b A' B' := by
  unfold bcase at *; split at h <;> first | exact m h | exact n h
theorem xv_mono {s : Sh} {o : Option AVal} (h : xv s o k) (m : ∀ v, k v → k' v) : xv s o k' := by
  cases s <;> simp only [xv] at *
  · exact xBool_mono h fun _ => m _
  · exact xInt_mono h fun _ => m _
  · exact xStr_mono h fun _ => m _
  · exact xPtr_mono h fun _ => m _
  · exact xSl_mono h fun _ _ _ _ => m _
  · exact xMap_mono h fun _ => m _
  · exact xAny_mono h m
theorem xs_mono : ∀ {ss : List Sh} {cs : List AVal} {K K' : List AVal → Prop}, xs ss cs K → (∀ v, K v → K' v) → xs ss cs K'
  | [], _, _, _, h, m => xNil_mono h (m _)
  | _ :: _, _, _, _, h, m => xCons_mono h fun _ _ h => xv_mono h fun _ h => xs_mono h fun _ => m _
theorem xt_mono {t : TypeId} {v : AVal} (h : xt P t v k) (m : ∀ v, k v → k' v) : xt P t v k' := by
  unfold xt at *
  split at h
  · exact xAgg_mono h fun _ h => xs_mono h fun _ => m _
  · exact xv_mono h m
theorem xts_mono : ∀ {ts : List TypeId} {cs : List AVal} {K K' : List AVal → Prop}, xts P ts cs K → (∀ v, K v → K' v) → xts P ts cs K'
  | [], _, _, _, h, m => xNil_mono h (m _)
  | _ :: _, _, _, _, h, m => xCons_mono h fun _ _ h => xt_mono h fun _ h => xts_mono h fun _ => m _
theorem xres_mono {ts : List TypeId} {v : AVal} (h : xres P ts v k) (m : ∀ v, k v → k' v) : xres P ts v k' := by
  unfold xres at *
  split at h
  · exact m _ h
  · exact xt_mono h m
  · exact xTup_mono h fun _ h => xts_mono h fun _ => m _
theorem loadA_mono {t : TypeId} {h : AHeap} {p : AVal} (hh : loadA P t h p k) (m : ∀ v, k v → k' v) : loadA P t h p k' := by
  unfold loadA at *
  split at hh
  · exact xRow_mono hh fun _ h => xs_mono h fun _ => m _
  · exact xv_mono hh m
theorem storeA_mono {t : TypeId} {h : AHeap} {p v : AVal} {K K' : AHeap → Prop} (hh : storeA P t h p v K) (m : ∀ v, K v → K' v) : storeA P t h p v K' := by
  unfold storeA at *
  split at hh
  · split at hh
    · exact xHeap_mono hh m
    · exact hh.elim
  · exact hh.elim
theorem ptrEq_mono {a b : Option (Nat × Nat)} {K K' : Bool → Prop} (h : ptrEq a b K) (m : ∀ b, K b → K' b) : ptrEq a b K' := by
  unfold ptrEq at *
  split at h
  · exact m _ h
  · split at h
    · exact m _ h
    · exact h.elim
theorem xSome_mono {a : Option (Nat × Nat)} {K K' : Nat → Nat → Prop} (h : xSome a K) (m : ∀ b o, K b o → K' b o) : xSome a K' := by
  obtain ⟨b, o, rfl, h⟩ := xSome_elim h
  exact m _ _ h
theorem eqA_mono {t : TypeId} {x y : AVal} {K K' : Bool → Prop} (h : eqA P t x y K) (m : ∀ b, K b → K' b) : eqA P t x y K' := by
  unfold eqA at *
  split at h <;> (try exact h.elim) <;> split at h <;> (try exact h.elim)
  · exact chk_mono h (m _)
  · exact m _ h
  · exact chk_mono h (m _)
  · exact chk_mono h fun h => ptrEq_mono h m
  · split at h
    · exact m _ h
    · exact h.elim
  · exact chk_mono h fun h => ⟨h.1, m _ h.2⟩
theorem binA_mono {op : BinOp} {t : TypeId} {x y : AVal} (h : binA P op t x y k) (m : ∀ v, k v → k' v) : binA P op t x y k' := by
  unfold binA at *
  split at h
  · exact eqA_mono h fun _ => m _
  · exact eqA_mono h fun _ => m _
  · split at h
    · split at h
      · split at h <;> first
          | exact h.elim
          | exact chk_mono h (m _)
          | exact chk_mono h fun h => ⟨h.1, m _ h.2⟩
          | exact ⟨h.1, m _ h.2⟩
      · exact h.elim
    · split at h
      · split at h <;> first
          | exact h.elim
          | exact ⟨h.1, m _ h.2⟩
          | exact m _ h
      · exact h.elim
    · exact h.elim
theorem partA_mono {t : TypeId} {cs : List AVal} {off : Nat} (h : partA P t cs off k) (m : ∀ v, k v → k' v) : partA P t cs off k' := by
  unfold partA at *
  split at h
  · exact m _ h
  · exact chk_mono h fun h => xAny_mono h m
theorem lenA_mono {ts : Array TypeId} {xs : List AVal} (h : lenA P ts xs k) (m : ∀ v, k v → k' v) : lenA P ts xs k' := by
  unfold lenA at *
  split at h <;> first | exact h.elim | exact chk_mono h (m _)
theorem convA_mono {s d : TypeId} {x : AVal} (h : convA P s d x k) (m : ∀ v, k v → k' v) : convA P s d x k' := by
  unfold convA at *
  split at h
  · split at h <;> first | exact h.elim | exact chk_mono h (m _)
  · split at h <;> first | exact h.elim | exact chk_mono h (m _) | exact chk_mono h fun h => ⟨h.1, m _ h.2⟩
  · exact h.elim
theorem sliceA_mono {t : TypeId} {x : AVal} {lo hi mx : Option AVal} (h : sliceA P t x lo hi mx k) (m : ∀ v, k v → k' v) : sliceA P t x lo hi mx k' := by
  unfold sliceA at *
  split at h
  · split at h
    · exact chk_mono h fun h => optInt_mono h fun _ h => optInt_mono h fun _ h => ⟨h.1, m _ h.2⟩
    · exact h.elim
  · split at h
    · refine chk_mono h fun h => chk_mono h fun h => optInt_mono h fun _ h => optInt_mono h fun _ h => optInt_mono h fun _ h => ⟨h.1, ?_⟩
      have h2 := h.2
      split at h2
      · exact ⟨h2.1, m _ h2.2⟩
      · exact ⟨fun a => m _ (h2.1 a), fun a => m _ (h2.2 a)⟩
    · exact h.elim
  · exact h.elim
theorem pureA_mono {env : Env} {o : Oper} (h : pureA P env o k) (m : ∀ v, k v → k' v) : pureA P env o k' := by
  obtain ⟨dst, op, type, pos, after, guard⟩ := o
  unfold pureA at *
  cases op <;> simp only at h ⊢ <;> (try exact h.elim)
  case move x => exact m _ h
  case assign x => exact m _ h
  case pick c a b =>
    unfold pickA at *
    split at h
    · exact bcase_mono h (m _) (m _)
    · exact h.elim
  case nilCheck x =>
    unfold nilA at *
    split at h <;> first | exact h.elim | exact m _ h | exact xSome_mono h fun _ _ => m _
  case fieldAddr t x i =>
    unfold fieldAddrA at *
    split at h
    · exact xField_mono h fun _ h => chk_mono h fun h => chk_mono h fun h => xSome_mono h fun _ _ => m _
    · exact h.elim
  case field t x i =>
    unfold fieldA at *
    split at h
    · exact xField_mono h fun _ h => partA_mono h m
    · exact h.elim
  case indexAddr t x i =>
    unfold indexAddrA at *
    split at h
    · split at h
      · split at h <;> first | exact h.elim | exact chk_mono h fun h => ⟨h.1, xSome_mono h.2 fun _ _ => m _⟩
      · split at h <;> first | exact h.elim | exact chk_mono h fun h => ⟨h.1, xSome_mono h.2 fun _ _ => m _⟩
      · exact h.elim
    · exact h.elim
  case index t x i =>
    unfold indexA at *
    split at h
    · split at h
      · split at h
        · exact ⟨h.1, m _ h.2⟩
        · exact h.elim
      · split at h
        · exact chk_mono h fun h => ⟨h.1, partA_mono h.2 m⟩
        · exact h.elim
      · exact h.elim
    · exact h.elim
  case slice t x lo hi mx => exact sliceA_mono h m
  case binOp op t x y yt => exact binA_mono h m
  case unOp op t x =>
    unfold unA at *
    split at h
    · split at h <;> first | exact h.elim | exact m _ h
    · split at h <;> first | exact h.elim | exact m _ h
    · exact h.elim
  case convert s d x => exact convA_mono h m
  case extract x i =>
    unfold extractA at *
    split at h
    · exact xAny_mono h m
    · exact h.elim
  case makeFunc fn first caps =>
    cases fn <;> simp only at h ⊢ <;> first | exact h.elim | exact chk_mono h (m _)
  case call c =>
    split at h
    · exact lenA_mono h m
    · exact h.elim
theorem ownRow_mono {h : AHeap} {j : Nat} {e : TypeId} {A B : List AVal → Prop} (hh : ownRow h j e A) (m : ∀ cs, A cs → B cs) : ownRow h j e B := by
  unfold ownRow at *
  split at hh
  · exact ⟨hh.1, m _ hh.2⟩
  · exact hh.elim
theorem appendA_mono {t : TypeId} {h : AHeap} {s x : AVal} (hh : appendA P t h s x K) (m : ∀ v h, K v h → K' v h) : appendA P t h s x K' := by
  unfold appendA at *
  split at hh <;> (try exact hh.elim)
  split at hh <;> (try exact hh.elim)
  split at hh <;> (try exact hh.elim)
  refine xRow_mono hh fun new h => ⟨h.1, ?_⟩
  have h2 := h.2
  split at h2
  · exact ⟨fun a => m _ _ (h2.1 a), fun a => ⟨(h2.2 a).1, m _ _ (h2.2 a).2⟩⟩
  · rcases h2 with ⟨a, b⟩ | ⟨a, b⟩ | ⟨a, b⟩
    · exact .inl ⟨a, ownRow_mono b fun _ h => ⟨h.1, m _ _ h.2⟩⟩
    · exact .inr (.inl ⟨a, ownRow_mono b fun _ h => ⟨h.1, m _ _ h.2⟩⟩)
    · exact .inr (.inr ⟨a, xRow_mono b fun _ => m _ _⟩)
theorem bytesA_mono : ∀ {cs : List AVal} {K K' : List Nat → Prop}, bytesA cs K → (∀ s, K s → K' s) → bytesA cs K'
  | [], _, _, h, m => m _ h
  | .int k n :: r, _, _, h, m => by
    unfold bytesA at *
    exact chk_mono h fun h => ⟨h.1, bytesA_mono h.2 fun _ => m _⟩
  | .undef :: _, _, _, h, _ | .bool _ :: _, _, _, h, _ | .str _ :: _, _, _, h, _ | .ptr _ :: _, _, _, h, _ | .slice .. :: _, _, _, h, _ | .map _ :: _, _, _, h, _ | .fn .. :: _, _, _, h, _ | .nilFn :: _, _, _, h, _ | .iter _ :: _, _, _, h, _
  | .agg _ :: _, _, _, h, _ | .tup _ :: _, _, _, h, _ => by unfold bytesA at h; exact h.elim
theorem strA_mono {s d : TypeId} {h : AHeap} {x : AVal} {K K' : AVal → Prop} (hh : strA P s d h x K) (m : ∀ v, K v → K' v) : strA P s d h x K' := by
  unfold strA at *
  split at hh
  · refine chk_mono hh fun h => ?_
    split at h
    · exact xRow_mono h fun _ h => bytesA_mono h fun _ => m _
    · exact h.elim
  · exact hh.elim
theorem minA_mono {x y : AVal} {K K' : AVal → Prop} (hh : minA x y K) (m : ∀ v, K v → K' v) : minA x y K' := by
  unfold minA at *
  split at hh
  · split at hh
    · exact chk_mono hh (m _)
    · exact hh.elim
  · exact hh.elim
theorem makeSliceA_mono {t : TypeId} {a b : AVal} {h : AHeap} {K K' : AVal → AHeap → Prop} (hh : makeSliceA P t a b h K) (m : ∀ v h, K v h → K' v h) : makeSliceA P t a b h K' := by
  unfold makeSliceA at *
  split at hh
  · refine xRow_mono hh fun _ h => chk_mono h fun h => ?_
    unfold xInt at *
    split at h
    · refine ⟨h.1, ?_⟩
      replace h := h.2
      split at h
      · exact ⟨h.1, h.2.1, m _ _ h.2.2⟩
      · exact h.elim
    · exact h.elim
  · exact hh.elim
theorem xMapObj_mono {h : AHeap} {m : Option Nat} {K K' : List ME → Nat → Prop} (hh : xMapObj h m K) (m' : ∀ a b, K a b → K' a b) : xMapObj h m K' := by
  unfold xMapObj at *
  split at hh
  · exact m' _ _ hh
  · split at hh
    · exact m' _ _ hh
    · exact hh.elim
theorem lookS_mono {es : List ME} {s : List Nat} {K K' : Option AVal → Prop} (hh : lookS es s K) (m : ∀ a, K a → K' a) : lookS es s K' := by
  unfold lookS at *; split at hh <;> first | exact m _ hh | exact hh.elim
theorem putS_mono {es : List ME} {clk : Nat} {s : List Nat} {v : AVal} {K K' : List ME → Nat → Prop} (hh : putS es clk s v K) (m : ∀ a b, K a b → K' a b) : putS es clk s v K' := by
  unfold putS at *; split at hh <;> first | exact m _ _ hh | exact hh.elim
theorem xMp_mono {m : Option Nat} {K K' : Nat → Prop} (hh : xMp m K) (mm : ∀ a, K a → K' a) : xMp m K' := by
  unfold xMp at *; split at hh <;> first | exact mm _ hh | exact hh.elim
theorem xIter_mono {h : AHeap} {r : Nat} {K K' : List Nat → Nat → Prop} (hh : xIter h r K) (m : ∀ a b, K a b → K' a b) : xIter h r K' := by
  unfold xIter at *; split at hh <;> first | exact m _ _ hh | exact hh.elim
theorem xMIter_mono {h : AHeap} {r : Nat} {K K' : Option Nat → Nat → List Nat → Nat → Prop} (hh : xMIter h r K) (m : ∀ a b c d, K a b c d → K' a b c d) : xMIter h r K' := by
  unfold xMIter at *; split at hh <;> first | exact m _ _ _ _ hh | exact hh.elim
theorem lookupA_mono {t : TypeId} {h : AHeap} {x i : AVal} {ok : Bool} (hh : lookupA P t h x i ok k) (m : ∀ v, k v → k' v) : lookupA P t h x i ok k' := by
  unfold lookupA at *
  split at hh
  · refine chk_mono hh fun h => ?_
    split at h
    · exact xStr_mono h fun _ h => xAny_mono h fun _ h => xMapObj_mono h fun _ _ h => lookS_mono h fun _ h => xv_mono h fun _ => m _
    · exact h.elim
  · exact hh.elim
theorem mapUpdateA_mono {t : TypeId} {h : AHeap} {x i v : AVal} (hh : mapUpdateA P t h x i v K) (m : ∀ v h, K v h → K' v h) : mapUpdateA P t h x i v K' := by
  unfold mapUpdateA at *
  split at hh
  · refine chk_mono hh fun h => ?_
    split at h
    · exact xMp_mono h fun _ h => xStr_mono h fun _ h => xMapObj_mono h fun _ _ h => putS_mono h fun _ _ => m _ _
    · exact h.elim
  · exact hh.elim
theorem makeMapA_mono {t : TypeId} {r : Option AVal} {h : AHeap} (hh : makeMapA P t r h K) (m : ∀ v h, K v h → K' v h) : makeMapA P t r h K' := by
  unfold makeMapA at *
  split at hh <;> first | exact m _ _ hh | exact chk_mono hh (m _ _) | exact hh.elim
theorem rangeA_mono {t : TypeId} {x : AVal} {h : AHeap} (hh : rangeA P t x h K) (m : ∀ v h, K v h → K' v h) : rangeA P t x h K' := by
  unfold rangeA at *
  split at hh <;> first | exact hh.elim | exact chk_mono hh (m _ _) | exact chk_mono hh fun h => xMapObj_mono h fun _ _ => m _ _
theorem xOpt_mono {m : Option Nat} {A B A' B' : Prop} (hh : xOpt m A B) (p : A → A') (q : B → B') : xOpt m A' B' := by
  unfold xOpt at *; split at hh <;> first | exact p hh | exact q hh
theorem nextA_mono {ty : TypeId} {x : AVal} {st : Bool} {h : AHeap} (hh : nextA P ty x st h K) (m : ∀ v h, K v h → K' v h) : nextA P ty x st h K' := by
  unfold nextA at *
  split at hh
  · split at hh
    · exact xIter_mono hh fun _ _ h => ⟨fun a => ⟨(h.1 a).1, m _ _ (h.1 a).2⟩, fun a => m _ _ (h.2 a)⟩
    · exact xMIter_mono hh fun _ _ _ _ h => xOpt_mono h (m _ _) fun h => xMapObj_mono h fun _ _ h => ⟨h.1, fun a => m _ _ (h.2.1 a), fun e he hn => xv_mono (h.2.2 e he hn) fun _ h => xv_mono h fun _ => m _ _⟩
  · exact hh.elim
theorem entryA_mono {ty : TypeId} {x : AVal} {h : AHeap} (hh : entryA P ty x h k) (m : ∀ v, k v → k' v) : entryA P ty x h k' := by
  unfold entryA at *
  split at hh
  · exact xMIter_mono hh fun _ _ _ _ h => xMp_mono h fun _ h => xMapObj_mono h fun _ _ h => ⟨h.1, h.2.imp fun _ h => ⟨h.1, h.2.imp fun _ h => ⟨h.1, xv_mono h.2 fun _ h => xv_mono h fun _ => m _⟩⟩⟩
  · exact hh.elim
theorem ptrCmp_mono {h : AHeap} {a b : Option (Nat × Nat)} {K K' : Bool → Prop} (hh : ptrCmp h a b K) (m : ∀ e, K e → K' e) : ptrCmp h a b K' := by
  unfold ptrCmp at *
  split at hh
  · exact m _ hh
  · split at hh
    · exact m _ hh
    · exact hh.imp (fun h => ⟨h.1, m _ h.2⟩) fun h => ⟨h.1, h.2.1, h.2.2.1, m _ h.2.2.2⟩
theorem cmpA_mono {op : BinOp} {t : TypeId} {h : AHeap} {a b : Option (Nat × Nat)} (hh : cmpA P op t h a b K) (m : ∀ v h, K v h → K' v h) : cmpA P op t h a b K' := by
  unfold cmpA at *
  split at hh
  · exact chk_mono hh fun h => ptrCmp_mono h fun _ => m _ _
  · exact chk_mono hh fun h => ptrCmp_mono h fun _ => m _ _
  · exact hh.elim
theorem lookP_mono {r : Option (Option (Nat × AVal))} {K K' : Option AVal → Prop} (hh : lookP r K) (m : ∀ e, K e → K' e) : lookP r K' := by
  unfold lookP at *; split at hh <;> first | exact m _ hh | exact hh.elim
theorem putP_mono {r : Option (Option (Nat × AVal))} {es : List ME} {clk : Nat} {p : Nat × Nat} {v : AVal} {K K' : List ME → Nat → Prop} (hh : putP r es clk p v K) (m : ∀ a b, K a b → K' a b) : putP r es clk p v K' := by
  unfold putP at *; split at hh <;> first | exact m _ _ hh | exact hh.elim
theorem delP_mono {r : Option (Option (Nat × AVal))} {es : List ME} {K K' : List ME → Prop} (hh : delP r es K) (m : ∀ a, K a → K' a) : delP r es K' := by
  unfold delP at *; split at hh <;> first | exact m _ hh | exact hh.elim
theorem lookupPA_mono {t : TypeId} {h : AHeap} {x i : AVal} {ok : Bool} (hh : lookupPA P t h x i ok k) (m : ∀ v, k v → k' v) : lookupPA P t h x i ok k' := by
  unfold lookupPA at *
  split at hh
  · refine chk_mono hh fun h => ?_
    split at h
    · exact xPtr_mono h fun _ h => xSome_mono h fun _ _ h => xAny_mono h fun _ h => xMapObj_mono h fun _ _ h => lookP_mono h fun _ h => xv_mono h fun _ => m _
    · exact h.elim
  · exact hh.elim
theorem mapUpdatePA_mono {t : TypeId} {h : AHeap} {x i v : AVal} (hh : mapUpdatePA P t h x i v K) (m : ∀ v h, K v h → K' v h) : mapUpdatePA P t h x i v K' := by
  unfold mapUpdatePA at *
  split at hh
  · refine chk_mono hh fun h => ?_
    split at h
    · exact xMp_mono h fun _ h => xPtr_mono h fun _ h => xSome_mono h fun _ _ h => xMapObj_mono h fun _ _ h => putP_mono h fun _ _ => m _ _
    · exact h.elim
  · exact hh.elim
theorem deleteA_mono {t : TypeId} {h : AHeap} {x i : AVal} (hh : deleteA P t h x i K) (m : ∀ v h, K v h → K' v h) : deleteA P t h x i K' := by
  unfold deleteA at *
  split at hh
  · refine chk_mono hh fun h => ?_
    split at h
    · exact xMp_mono h fun _ h => xPtr_mono h fun _ h => xSome_mono h fun _ _ h => xMapObj_mono h fun _ _ h => delP_mono h fun _ => m _ _
    · exact h.elim
  · exact hh.elim
theorem opA_mono {env : Env} {h : AHeap} {o : Oper} (hh : opA P env h o K) (m : ∀ v h, K v h → K' v h) : opA P env h o K' := by
  obtain ⟨dst, op, type, pos, after, guard⟩ := o
  unfold opA at *
  cases op <;> simp only at hh ⊢
  case load t a => exact chk_mono hh fun h => loadA_mono h fun _ => m _ _
  case store t a x => exact chk_mono hh fun h => storeA_mono h fun _ => m _ _
  case alloc t => exact xRow_mono hh fun _ => m _ _
  case box t x => exact xRow_mono hh fun _ => m _ _
  case build t ps =>
    refine xRow_mono hh fun _ h => ?_
    split at h
    · exact chk_mono h fun h => xRow_mono h fun _ => m _ _
    · exact chk_mono h fun h => xRow_mono h fun _ => m _ _
    · exact h.elim
  case buildSlice t n ps =>
    unfold buildSliceA at *
    split at hh
    · exact xRow_mono hh fun _ h => chk_mono h fun h => xRow_mono h fun _ => m _ _
    · exact hh.elim
  case call c =>
    unfold callA at *
    split at hh
    · split at hh
      · exact SCall.mono hh fun _ _ h => xres_mono h fun _ => m _ _
      · unfold dynA dynF at *
        split at hh
        · exact SCall.mono hh fun _ _ h => xres_mono h fun _ => m _ _
        · exact hh.elim
    · split at hh
      · refine chk_mono hh fun h => ?_
        split at h
        · exact appendA_mono h fun _ _ h => xv_mono h fun _ => m _ _
        · exact h.elim
      · exact hh.elim
    · split at hh
      · exact minA_mono hh fun _ => m _ _
      · exact hh.elim
    · split at hh
      · split at hh
        · unfold clearA at *
          split at hh
          · split at hh
            · refine ⟨fun h0 => m _ _ (hh.1 h0), fun h0 => xRow_mono (hh.2 h0) fun _ h => chk_mono h fun h => xHeap_mono h fun _ => m _ _⟩
            · exact hh.elim
          · exact hh.elim
        · exact hh.elim
      · exact hh.elim
    · split at hh
      · split at hh
        · exact deleteA_mono hh m
        · exact hh.elim
      · exact hh.elim
    · exact pureA_mono hh fun _ => m _ _
  case makeSlice t l c => exact makeSliceA_mono hh m
  case makeMap t r => exact makeMapA_mono hh m
  case lookup t x i ok =>
    split at hh
    · exact lookupPA_mono hh fun _ => m _ _
    · exact lookupA_mono hh fun _ => m _ _
  case mapUpdate t mm k v =>
    split at hh
    · exact mapUpdatePA_mono hh m
    · exact mapUpdateA_mono hh m
  case binOp op t x y yt =>
    split at hh
    · split at hh
      · exact cmpA_mono hh m
      · exact pureA_mono hh fun _ => m _ _
    · exact pureA_mono hh fun _ => m _ _
  case range t x => exact rangeA_mono hh m
  case next x st => exact nextA_mono hh m
  case entry x => exact entryA_mono hh fun _ => m _ _
  case convert s d x =>
    split at hh
    · exact strA_mono hh fun _ => m _ _
    · exact pureA_mono hh fun _ => m _ _
  all_goals exact pureA_mono hh fun _ => m _ _
end
end Go.Sim

/- What an operation that only reckons or loads hands on is one value; operations look at their operands alone. -/
set_option linter.unusedSimpArgs false
namespace Go.Sim
open Go Go.RowKit

/-- F hands on one value. -/
def Det {α : Type} (F : (α → Prop) → Prop) : Prop := ∀ k, F k → ∃ v, k v ∧ ∀ k', k' v → F k'
theorem Det.ret {α : Type} (a : α) : Det (fun k => k a) := fun _ h => ⟨a, h, fun _ h => h⟩
theorem Det.no {α : Type} : Det (fun _ : α → Prop => False) := fun _ h => h.elim
theorem Det.and {α : Type} {p : Prop} {F : (α → Prop) → Prop} (d : Det F) : Det (fun k => p ∧ F k) := fun k ⟨hp, h⟩ => let ⟨v, hv, r⟩ := d k h; ⟨v, hv, fun k' h' => ⟨hp, r k' h'⟩⟩
theorem Det.chk {α : Type} {p : Prop} [Decidable p] {F : (α → Prop) → Prop} (d : Det F) : Det (fun k => chk p (F k)) := fun k h => by
  have ⟨hp, h⟩ := chk_elim h
  obtain ⟨v, hv, r⟩ := d k h
  exact ⟨v, hv, fun k' h' => by unfold Sim.chk; rw [decide_eq_true hp]; exact r k' h'⟩
theorem Det.bind {α β : Type} {F : (α → Prop) → Prop} {G : α → (β → Prop) → Prop} (d : Det F) (e : ∀ a, Det (G a)) : Det (fun k => F fun a => G a k) := fun k h => by
  obtain ⟨a, ha, r⟩ := d _ h
  obtain ⟨b, hb, q⟩ := e a k ha
  exact ⟨b, hb, fun k' h' => r _ (q k' h')⟩
theorem Det.map {α β : Type} {F : (α → Prop) → Prop} (d : Det F) (f : α → β) : Det (fun k => F fun a => k (f a)) := d.bind fun a => Det.ret (f a)
theorem Det.bcase {α : Type} {b : Bool} {F G : (α → Prop) → Prop} (d : Det F) (e : Det G) : Det (fun k => bcase b (F k) (G k)) := by cases b <;> assumption

section
variable {P : Program}
theorem det_xv (s : Sh) (o : Option AVal) : Det (xv s o) := by
  intro k h
  cases s <;> simp only [xv, xBool, xStr, xPtr, xSl, xMap, xAny, xInt] at * <;> split at h <;> first
    | exact h.elim
    | exact ⟨_, h, fun _ h => h⟩
    | exact ⟨_, h.2, fun _ h' => ⟨h.1, h'⟩⟩
theorem det_xAny (o : Option AVal) : Det (xAny o) := det_xv .any o
theorem det_xRow (o : Option (List AVal)) : Det (xRow o) := fun k h => by
  unfold xRow at *; split at h <;> first | exact ⟨_, h, fun _ h => h⟩ | exact h.elim
theorem det_xs : ∀ (ss : List Sh) (cs : List AVal), Det (xs ss cs)
  | [], cs => fun k h => by
    simp only [xs, xNil] at *; split at h <;> first | exact ⟨_, h, fun _ h => h⟩ | exact h.elim
  | s :: ss, cs => fun k h => by
    simp only [xs, xCons] at *
    split at h
    · exact ((det_xv s _).bind (G := fun v k => xs ss _ fun vs => k (v :: vs)) fun v => (det_xs ss _).map (v :: ·)) k h
    · exact h.elim
theorem det_loadA (t : TypeId) (h : AHeap) (p : AVal) : Det (loadA P t h p) := by
  intro k hh
  unfold loadA at *
  split at hh
  · exact ((det_xRow _).bind (G := fun cs k => xs _ cs fun vs => k (.agg vs)) fun cs => (det_xs _ cs).map AVal.agg) k hh
  · exact det_xv _ _ k hh
theorem det_ptrEq (a b : Option (Nat × Nat)) : Det (ptrEq a b) := by
  intro k h
  unfold ptrEq at *
  split at h
  · exact ⟨_, h, fun _ h => h⟩
  · split at h
    · exact ⟨_, h, fun _ h => h⟩
    · exact h.elim
theorem det_xSome (a : Option (Nat × Nat)) (f : Nat → Nat → AVal) : Det (fun k : AVal → Prop => xSome a fun b o => k (f b o)) := by
  intro k h
  obtain ⟨b, o, rfl, h⟩ := xSome_elim h
  exact ⟨_, h, fun _ h => h⟩
theorem det_eqA (t : TypeId) (x y : AVal) : Det (eqA P t x y) := by
  intro k h
  unfold eqA at *
  split at h <;> (try exact h.elim) <;> split at h <;> (try exact h.elim)
  · exact (Det.ret _).chk k h
  · exact ⟨_, h, fun _ h => h⟩
  · exact (Det.ret _).chk k h
  · exact (det_ptrEq _ _).chk k h
  · split at h
    · exact ⟨_, h, fun _ h => h⟩
    · exact h.elim
  · exact (Det.ret _).and.chk k h
theorem det_binA (op : BinOp) (t : TypeId) (x y : AVal) : Det (binA P op t x y) := by
  intro k h
  unfold binA at *
  split at h
  · exact (det_eqA t x y).map _ k h
  · exact (det_eqA t x y).map _ k h
  · split at h
    · split at h
      · split at h <;> first
          | exact h.elim
          | exact (Det.ret _).chk k h
          | exact (Det.ret _).and.chk k h
          | exact (Det.ret _).and k h
      · exact h.elim
    · split at h
      · split at h <;> first
          | exact h.elim
          | exact (Det.ret _).and k h
          | exact ⟨_, h, fun _ h => h⟩
      · exact h.elim
    · exact h.elim
theorem det_partA (t : TypeId) (cs : List AVal) (off : Nat) : Det (partA P t cs off) := by
  intro k h
  unfold partA at *
  split at h
  · exact ⟨_, h, fun _ h => h⟩
  · exact (det_xAny _).chk k h
theorem det_optInt (o : Option AVal) (d : Int) : Det (optInt o d) := fun k h => by
  unfold optInt at *; split at h <;> first | exact ⟨_, h, fun _ h => h⟩ | exact h.elim
theorem det_field (o : Option Field) : Det (xField o) := fun k h => by
  unfold xField at *; split at h <;> first | exact ⟨_, h, fun _ h => h⟩ | exact h.elim
theorem det_sliceStr (s : List Nat) (lo hi : Option AVal) : Det (sliceStr s lo hi) := by
  unfold sliceStr
  exact (det_optInt hi s.length).bind fun h => (det_optInt lo 0).bind fun l => (Det.ret _).and
theorem det_sliceSl (a : Option (Nat × Nat)) (len cap : Nat) (ex : Bool) (sz : Nat) (lo hi mx : Option AVal) : Det (sliceSl a len cap ex sz lo hi mx) := by
  unfold sliceSl
  refine (det_optInt mx cap).bind fun m => (det_optInt hi len).bind fun h => (det_optInt lo 0).bind fun l => Det.and ?_
  intro k hk
  split at hk
  · exact (Det.ret _).and k hk
  · rename_i b o
    by_cases hlm : l < m
    · exact ⟨_, hk.1 hlm, fun k' h' => ⟨fun _ => h', fun h => absurd hlm h⟩⟩
    · exact ⟨_, hk.2 hlm, fun k' h' => ⟨fun h => absurd h hlm, fun _ => h'⟩⟩
theorem det_pureA (env : Env) (o : Oper) : Det (pureA P env o) := by
  intro k h
  obtain ⟨dst, op, type, pos, after, guard⟩ := o
  unfold pureA at *
  cases op <;> simp only at h ⊢ <;> (try exact h.elim)
  case move x => exact ⟨_, h, fun _ h => h⟩
  case assign x => exact ⟨_, h, fun _ h => h⟩
  case pick c a b =>
    unfold pickA at *
    split at h
    · exact (Det.ret _).bcase (Det.ret _) k h
    · exact h.elim
  case nilCheck x =>
    unfold nilA at *
    split at h <;> first | exact h.elim | exact ⟨_, h, fun _ h => h⟩ | exact det_xSome _ (fun b o => .ptr (some (b, o))) k h
  case fieldAddr t x i =>
    unfold fieldAddrA at *
    split at h
    · rename_i a _
      exact (Det.bind (F := xField (fieldOf P t i)) (G := fun (f : Field) (k : AVal → Prop) => chk ((P.underlying f.type).isSome = true) (chk (P.cellsOf f.type ≠ 0) (xSome a fun b o => k (AVal.ptr (some (b, o + f.offset)))))) (det_field _) fun f => Det.chk (Det.chk (det_xSome a fun b o => AVal.ptr (some (b, o + f.offset))))) k h
    · exact h.elim
  case field t x i =>
    unfold fieldA at *
    split at h
    · exact (det_field _).bind (G := fun f k => partA P f.type _ f.offset k) (fun f => det_partA _ _ _) k h
    · exact h.elim
  case indexAddr t x i =>
    unfold indexAddrA at *
    split at h
    · split at h
      · split at h <;> first | exact h.elim | exact (det_xSome _ (fun b o => AVal.ptr (some (b, o + _)))).and.chk k h
      · split at h <;> first | exact h.elim | exact (det_xSome _ (fun b o => AVal.ptr (some (b, o + _)))).and.chk k h
      · exact h.elim
    · exact h.elim
  case index t x i =>
    unfold indexA at *
    split at h
    · split at h
      · split at h
        · exact (Det.ret _).and k h
        · exact h.elim
      · split at h
        · exact (det_partA _ _ _).and.chk k h
        · exact h.elim
      · exact h.elim
    · exact h.elim
  case slice t x lo hi mx =>
    unfold sliceA at *
    split at h
    · split at h
      · exact (det_sliceStr _ _ _).chk k h
      · exact h.elim
    · split at h
      · exact (det_sliceSl _ _ _ _ _ _ _ _).chk.chk k h
      · exact h.elim
    · exact h.elim
  case binOp op t x y yt => exact det_binA _ _ _ _ k h
  case unOp op t x =>
    unfold unA at *
    split at h
    · split at h <;> first | exact h.elim | exact ⟨_, h, fun _ h => h⟩
    · split at h <;> first | exact h.elim | exact ⟨_, h, fun _ h => h⟩
    · exact h.elim
  case convert s d x =>
    unfold convA at *
    split at h
    · split at h <;> first | exact h.elim | exact (Det.ret _).chk k h
    · split at h <;> first | exact h.elim | exact (Det.ret _).chk k h | exact (Det.ret _).and.chk k h
    · exact h.elim
  case extract x i =>
    unfold extractA at *
    split at h
    · exact det_xAny _ k h
    · exact h.elim
  case makeFunc fn first caps =>
    cases fn <;> simp only at h ⊢ <;> first | exact h.elim | exact (Det.ret _).chk k h
  case call c =>
    split at h
    · unfold lenA at *
      split at h <;> first | exact h.elim | exact (Det.ret _).chk k h
    · exact h.elim

/-- Operations that neither look at memory nor write it. -/
def reckons (P : Program) (op : Op) : Bool :=
  match op with
  | .binOp _ t _ y _ => (match isPtrT P t with | false => true | true => isNilC y && isPtrR P t)
  | .move _ | .assign _ | .pick .. | .unOp .. | .nilCheck _ | .extract .. | .field .. | .fieldAddr .. | .indexAddr .. | .index .. | .slice .. | .makeFunc .. | .build .. => true
  | .call c => (match c.callee with | .builtin .len => true | _ => false)
  | .convert s _ _ => !isSlT P s
  | _ => false
def loads (op : Op) : Bool := match op with | .load .. => true | _ => false
/-- What a reckoning operation hands on hangs on no heap. -/
def calmA (P : Program) (env : Env) (o : Oper) (k : AVal → Prop) : Prop :=
  match o.op with
  | .build t ps => buildA P t (parts env ps) k
  | _ => pureA P env o k
theorem det_calmA (env : Env) (o : Oper) : Det (calmA P env o) := by
  intro k h
  unfold calmA at *
  split at h
  · refine (det_xRow _).bind (G := fun z k => _) (fun z => ?_) k h
    intro k h
    split at h
    · exact ((det_xRow _).map _).chk k h
    · exact ((det_xRow _).map _).chk k h
    · exact h.elim
  · exact det_pureA env o k h
theorem opA_reckons {env : Env} {h : AHeap} {o : Oper} (hr : reckons P o.op = true) {K : AVal → AHeap → Prop} : opA P env h o K ↔ calmA P env o fun v => K v h := by
  obtain ⟨dst, op, type, pos, after, guard⟩ := o
  cases op <;> simp only [reckons, Bool.false_eq_true] at hr <;> try (simp only [opA, calmA]; done)
  case call c =>
    simp only [opA, calmA, callA]
    split at hr
    · rename_i hc; simp [hc]
    · cases hr
  case convert s d x =>
    simp only [Bool.not_eq_true'] at hr
    simp only [opA, calmA, hr]
  case binOp op t x y yt =>
    simp only [opA, calmA, pureA]
    cases hx : ev env x <;> try exact Iff.rfl
    cases hy : ev env y <;> try exact Iff.rfl
    rename_i a b
    have hRT : isPtrR P t = true → isPtrT P t = true := fun h => by
      obtain ⟨e, j, hu, _⟩ := isPtrR_ok h
      unfold isPtrT; rw [hu]
    have hno : ∀ (p : Prop) [Decidable p] (q : Prop), ¬ p → (Sim.chk p q ↔ False) := fun p _ q h => ⟨fun hc => h (chk_elim hc).1, fun h => h.elim⟩
    have hyes : ∀ (p : Prop) [Decidable p] (q : Prop), p → (Sim.chk p q ↔ q) := fun p _ q h => ⟨fun hc => (chk_elim hc).2, fun hq => by unfold Sim.chk; rw [decide_eq_true h]; exact hq⟩
    cases hT : isPtrT P t with
    | false =>
      have hR : ¬ isPtrR P t = true := fun h => by rw [hRT h] at hT; cases hT
      have hT' : ¬ isPtrT P t = true := by rw [hT]; simp
      cases op <;> simp only [cmpA, binA, eqA] <;> first | exact Iff.rfl | (rw [hno _ _ hR, hno _ _ hT'])
    | true =>
      rw [hT] at hr
      simp only [Bool.and_eq_true] at hr
      have hb : b = none := by
        have := hr.1
        unfold isNilC at this
        split at this
        · simp [ev, cst, cstLeaf] at hy; exact hy.symm
        · cases this
      subst hb
      cases op <;> simp only [cmpA, binA, eqA] <;> first | exact Iff.rfl | (rw [hyes _ _ hr.2, hyes _ _ hT]; exact Iff.rfl)

theorem parts_congr {env env' : Env} {ps : Array (Nat × Operand)} (hx : ∀ x ∈ ps.map (·.2), ev env x = ev env' x) : parts env ps = parts env' ps := by
  unfold parts
  refine List.map_congr_left fun p hp => ?_
  rw [hx p.2 (Array.mem_map.2 ⟨p, by simpa using hp, rfl⟩)]
theorem args_congr {env env' : Env} {xs : Array Operand} (hx : ∀ x ∈ xs, ev env x = ev env' x) : xs.toList.map (ev env) = xs.toList.map (ev env') :=
  List.map_congr_left fun x hp => hx x (by simpa using hp)
theorem opA_congr {env env' : Env} {h : AHeap} {o : Oper} (hx : ∀ x ∈ o.op.operands, ev env x = ev env' x) {K : AVal → AHeap → Prop} : opA P env h o K ↔ opA P env' h o K := by
  obtain ⟨dst, op, type, pos, after, guard⟩ := o
  cases op <;> simp only [Op.operands] at hx <;> simp only [opA, pureA]
  case build t ps => rw [parts_congr fun x h => hx x (by simpa using h)]
  case buildSlice t n ps => rw [parts_congr fun x h => hx x (by simpa using h)]
  case makeFunc fn first caps =>
    have hc := args_congr (xs := caps) fun x h => hx x (by simp [h])
    cases fn <;> simp only [hc]
  case call c =>
    simp only [Call.operands] at hx
    have ha : c.args.toList.map (ev env) = c.args.toList.map (ev env') := args_congr fun x h => hx x (by simp [h])
    simp only [callA, pureA, ha]
    cases hc : c.callee with
    | value f =>
      have hf : ev env f = ev env' f := hx f (by simp [hc])
      cases f <;> simp only [hf]
    | invoke r m => exact Iff.rfl
    | builtin b => cases b <;> exact Iff.rfl
  case slice t x lo hi mx =>
    cases lo <;> cases hi <;> cases mx <;> simp_all
  case makeMap t r => cases r <;> simp_all
  all_goals (first | rfl | (simp_all; done))
end
end Go.Sim

/- A region whose order Go leaves open: one order, with what was loaded held, tells of all. -/
set_option linter.unusedSimpArgs false
namespace Go.Sim
open Go Go.RowKit

/-- A cell, or a row, that was loaded by operation i. -/
structure Hold where
  i : Nat
  p : AVal
  n : Option Nat
def Hold.ok (d : Hold) (h h' : AHeap) : Prop := match d.n with | none => hCell h' d.p = hCell h d.p | some n => hRow h' d.p n = hRow h d.p n
theorem Hold.ok_refl (d : Hold) (h : AHeap) : d.ok h h := by unfold Hold.ok; split <;> rfl
def waitsOn (ops : Array Oper) (j i : Nat) : Bool := match ops[j]? with | some o => o.after.any (fun e => Region.binds .any e && e.on == i) | none => false
def holdsK (ops : Array Oper) (j : Nat) : List Hold → AHeap → AHeap → Prop → Prop
  | [], _, _, K => K
  | d :: r, h, h', K => (match waitsOn ops j d.i with | true => holdsK ops j r h h' K | false => d.ok h h' ∧ holdsK ops j r h h' K)
theorem holdsK_elim {ops : Array Oper} {j : Nat} : ∀ {hs : List Hold} {h h' : AHeap} {K : Prop}, holdsK ops j hs h h' K → (∀ d ∈ hs, waitsOn ops j d.i = true ∨ d.ok h h') ∧ K
  | [], _, _, _, hk => ⟨by simp, hk⟩
  | d :: r, h, h', K, hk => by
    unfold holdsK at hk
    split at hk
    · rename_i hw
      obtain ⟨a, b⟩ := holdsK_elim hk
      exact ⟨fun x hx => by rcases List.mem_cons.1 hx with rfl | hx; exact .inl hw; exact a x hx, b⟩
    · obtain ⟨ho, hk⟩ := hk
      obtain ⟨a, b⟩ := holdsK_elim hk
      exact ⟨fun x hx => by rcases List.mem_cons.1 hx with rfl | hx; exact .inr ho; exact a x hx, b⟩

def stepI (P : Program) (N : Nat) (ops : Array Oper) (i : Nat) (env : Env) (h : AHeap) (K : Env → AHeap → Prop) : Prop :=
  match ops[i]? with | some o => stepA P N ops env h o K | none => K env h
def holdOf (P : Program) (ops : Array Oper) (i : Nat) (env : Env) : Hold :=
  match ops[i]? with
  | some o => (match o.op with
    | .load t a => (match isAgg P t with | true => ⟨i, ev env a, some (P.cellsOf t)⟩ | false => ⟨i, ev env a, none⟩)
    | _ => ⟨i, .undef, none⟩)
  | none => ⟨i, .undef, none⟩
def opIs (ops : Array Oper) (f : Op → Bool) (i : Nat) : Bool := match ops[i]? with | some o => f o.op | none => false
def allR (f : Nat → Prop) : List Nat → Prop
  | [] => True
  | [i] => f i
  | i :: r => f i ∧ allR f r
theorem allR_elim {f : Nat → Prop} : ∀ {l : List Nat}, allR f l → ∀ i ∈ l, f i
  | [], _, i, hi => by simp at hi
  | [j], h, i, hi => by simp at hi; subst hi; exact h
  | j :: k :: r, h, i, hi => by
    rcases List.mem_cons.1 hi with rfl | hi
    · exact h.1
    · exact allR_elim h.2 i hi
/-- What a region whose order is open does: what only reckons comes first, then what only loads, then whichever of the rest. -/
def drawA (P : Program) (N : Nat) (ops : Array Oper) (ks : List Nat) (K : Env → AHeap → Prop) : Nat → Array Bool → List Hold → Env → AHeap → Prop
  | 0, listed, _, env, h => (match Region.ready .any ops listed with | [] => K (env.keep ks) h | _ => False)
  | f + 1, listed, hs, env, h =>
    (match Region.ready .any ops listed with
    | [] => K (env.keep ks) h
    | rs => (match rs.find? (fun i => opIs ops (reckons P) i && Region.free .any ops listed i) with
      | some i => stepI P N ops i env h fun env' h' => drawA P N ops ks K f (listed.setIfInBounds i true) hs env' h'
      | none => (match (match rs with | [_] => none | _ => rs.find? (fun i => opIs ops loads i && Region.free .any ops listed i)) with
        | some i => stepI P N ops i env h fun env' h' => drawA P N ops ks K f (listed.setIfInBounds i true) (holdOf P ops i env :: hs) env' h'
        | none => allR (fun i => stepI P N ops i env h fun env' h' => holdsK ops i hs h h' (drawA P N ops ks K f (listed.setIfInBounds i true) hs env' h')) rs)))

/-- Whichever order: what was loaded is held. -/
def anyH (P : Program) (N : Nat) (ops : Array Oper) (K : Env → AHeap → Prop) (hs : List Hold) : Nat → Array Bool → Env → AHeap → Prop
  | 0, listed, env, h => Region.ready .any ops listed = [] ∧ K env h
  | f + 1, listed, env, h => (Region.ready .any ops listed = [] → K env h) ∧
    ∀ i ∈ Region.ready .any ops listed, stepI P N ops i env h fun env' h' => (∀ d ∈ hs, waitsOn ops i d.i = true ∨ d.ok h h') ∧ anyH P N ops K hs f (listed.setIfInBounds i true) env' h'

def EnvEq (env env' : Env) : Prop := ∀ t, env.get t = env'.get t
def After (o : Oper) (env : Env) (v : AVal) (env1 : Env) : Prop := ∀ t, env1.get t = if o.dst = some t then v else env.get t

section
variable {P : Program} {N : Nat} {ops : Array Oper}

theorem putA_tr {env env' : Env} {d : Option Tmp} {v : AVal} {K K' : Env → Prop} (hk : putA N env d v K)
    (hK : ∀ env1 env1', (∀ t, env1.get t = if d = some t then v else env.get t) → (∀ t, env1'.get t = if d = some t then v else env'.get t) → K env1 → K' env1') : putA N env' d v K' := by
  unfold putA at *
  cases d with
  | none => exact hK env env' (by simp) (by simp) hk
  | some d =>
    refine chk_mono hk fun hk => hK _ _ ?_ ?_ hk
    · intro t; rw [Env.get_set]; by_cases e : t = d <;> simp [e, eq_comm]; exact fun q => absurd q.symm e
    · intro t; rw [Env.get_set]; by_cases e : t = d <;> simp [e, eq_comm]; exact fun q => absurd q.symm e

theorem ev_agree {env env' : Env} {o : Oper} (hl : ∀ t ∈ o.looksAt ops, env.get t = env'.get t) : ∀ x ∈ o.op.operands, ev env x = ev env' x := fun x hx => by
  cases x with
  | tmp t => exact hl t (List.mem_append_left _ (List.mem_filterMap.2 ⟨.tmp t, by simpa using hx, rfl⟩))
  | _ => rfl
theorem get_know {env : Env} {t : Nat} {v : AVal} (h : env.get t = v) (s : Nat) : (env.set t v).get s = env.get s := by
  rw [Env.get_set]; split
  · rename_i e; subst e; exact h.symm
  · rfl
theorem step_tr {env env' : Env} {h h2 : AHeap} {o : Oper} {K K' : Env → AHeap → Prop} (hs : stepA P N ops env h o K) (hl : ∀ t ∈ o.looksAt ops, env.get t = env'.get t)
    (hop : ∀ (e1 e2 : Env), (∀ x ∈ o.op.operands, ev e1 x = ev e2 x) → (∀ t, e1.get t = env.get t) → ∀ (A B : AVal → AHeap → Prop), opA P e1 h o A → (∀ v h', A v h' → B v h') → opA P e2 h2 o B)
    (hun : ∀ e1 e2, EnvEq e1 env → EnvEq e2 env' → putA N e1 o.dst (.tup []) (fun x => K x h) → putA N e2 o.dst (.tup []) (fun x => K' x h2))
    (hK : ∀ v h' env1 env1', After o env v env1 → After o env' v env1' → K env1 h' → K' env1' h') : stepA P N ops env' h2 o K' := by
  unfold stepA at *
  cases hg : o.guard with
  | none =>
    simp only [hg] at hs ⊢
    exact hop env env' (ev_agree hl) (fun _ => rfl) _ _ hs fun v h' hp => putA_tr hp fun e1 e2 a b k => hK v h' e1 e2 a b k
  | some g =>
    obtain ⟨j, want⟩ := g
    simp only [hg] at hs ⊢
    cases ht : (ops[j]?).bind (·.dst) with
    | none => simp only [ht] at hs
    | some t =>
      simp only [ht] at hs ⊢
      have htl : env.get t = env'.get t := hl t (List.mem_append_right _ (by simp [hg, ht]))
      rw [← htl]
      split at hs
      · rename_i b hb
        have key : ∀ c, b = c → (opA P (env.set t (.bool c)) h o (fun v h' => putA N (env.set t (.bool c)) o.dst v fun env' => K env' h') → opA P (env'.set t (.bool c)) h2 o (fun v h' => putA N (env'.set t (.bool c)) o.dst v fun env' => K' env' h')) ∧
            (putA N (env.set t (.bool c)) o.dst (.tup []) (fun env' => K env' h) → putA N (env'.set t (.bool c)) o.dst (.tup []) (fun env' => K' env' h2)) := by
          intro c e
          subst e
          have k1 := get_know hb
          have k2 := get_know (htl ▸ hb : env'.get t = .bool b)
          constructor
          · intro ho
            refine hop _ _ (ev_agree fun s hs => by rw [k1, k2]; exact hl s hs) k1 _ _ ho fun v h' hp => putA_tr hp fun e1 e2 a b k => hK v h' e1 e2 ?_ ?_ k
            · intro s; rw [a s, k1]
            · intro s; rw [b s, k2]
          · exact hun _ _ k1 k2
        cases b
        · obtain ⟨k1, k2⟩ := key false rfl
          cases want
          · exact k1 hs
          · exact k2 hs
        · obtain ⟨k1, k2⟩ := key true rfl
          cases want
          · exact k2 hs
          · exact k1 hs
      · exact hun env env' (fun _ => rfl) (fun _ => rfl) hs
      · exact hs.elim

theorem step_same {env env' : Env} {h : AHeap} {o : Oper} {K K' : Env → AHeap → Prop} (hs : stepA P N ops env h o K) (hl : ∀ t ∈ o.looksAt ops, env.get t = env'.get t)
    (hK : ∀ v h' env1 env1', After o env v env1 → After o env' v env1' → K env1 h' → K' env1' h') : stepA P N ops env' h o K' :=
  step_tr hs hl (fun e1 e2 hx _ A B ha hm => opA_mono ((opA_congr hx).1 ha) hm)
    (fun e1 e2 q1 q2 hp => putA_tr hp fun f1 f2 a b k => hK _ _ f1 f2 (fun t => by rw [a t, q1 t]) (fun t => by rw [b t, q2 t]) k) hK

/-- Operation o hands on v here, and does nothing else. -/
def Yd (P : Program) (N : Nat) (ops : Array Oper) (o : Oper) (v : AVal) (env : Env) (h : AHeap) : Prop :=
  ∀ K : Env → AHeap → Prop, (∀ env1, After o env v env1 → K env1 h) → stepA P N ops env h o K

theorem anyH_weak {K : Env → AHeap → Prop} {hs hs' : List Hold} (hsub : ∀ d ∈ hs, d ∈ hs') : ∀ (f : Nat) {listed : Array Bool} {env env' : Env} {h : AHeap}, (∀ e e' h, EnvEq e e' → K e h → K e' h) → EnvEq env env' →
    anyH P N ops K hs' f listed env h → anyH P N ops K hs f listed env' h
  | 0, _, _, _, _, hK, he, hh => ⟨hh.1, hK _ _ _ he hh.2⟩
  | f + 1, listed, env, env', h, hK, he, hh => by
    refine ⟨fun hr => hK _ _ _ he (hh.1 hr), fun i hi => ?_⟩
    have := hh.2 i hi
    unfold stepI at *
    cases ho : ops[i]? with
    | none =>
      rw [ho] at this
      exact ⟨fun d hd => this.1 d (hsub d hd), anyH_weak hsub f hK he this.2⟩
    | some o =>
      rw [ho] at this
      refine step_same this (fun t _ => he t) fun v h' e1 e2 a b k => ⟨fun d hd => k.1 d (hsub d hd), anyH_weak hsub f hK (fun t => ?_) k.2⟩
      rw [a t, b t, he t]

theorem anyH_first {K : Env → AHeap → Prop} {hs hs' : List Hold} (hK : ∀ e e' h, EnvEq e e' → K e h → K e' h) (hsub : ∀ d ∈ hs, d ∈ hs') {i : Nat} {oi : Oper} {v : AVal} (hi : ops[i]? = some oi) {T : AHeap → AHeap → Prop}
    (hT : ∀ j h h1, waitsOn ops j i = false → (∀ d ∈ hs', waitsOn ops j d.i = true ∨ d.ok h h1) → T h h1)
    {Y : Env → AHeap → Prop} (hY : ∀ env h, Y env h → Yd P N ops oi v env h)
    (hst : ∀ env h env1 h1, Y env h → (∀ t ∈ oi.looksAt ops, env.get t = env1.get t) → T h h1 → Y env1 h1) :
    ∀ (fuel : Nat) (listed : Array Bool) (env env1 : Env) (h : AHeap),
      (∀ j oj, ops[j]? = some oj → j ≠ i → listed.getD j true = false → (∀ e ∈ oj.after, Region.binds .any e = true → e.on ≠ i) → oi.apart ops oj = true) →
      i ∈ Region.ready .any ops listed → Y env h → After oi env v env1 →
      anyH P N ops K hs' fuel (listed.setIfInBounds i true) env1 h → anyH P N ops K hs (fuel + 1) listed env h := by
  intro fuel
  have now : ∀ (fuel : Nat) (listed : Array Bool) (env env1 : Env) (h : AHeap), Y env h → After oi env v env1 → anyH P N ops K hs' fuel (listed.setIfInBounds i true) env1 h →
      stepI P N ops i env h fun env' h' => (∀ d ∈ hs, waitsOn ops i d.i = true ∨ d.ok h h') ∧ anyH P N ops K hs fuel (listed.setIfInBounds i true) env' h' := by
    intro fuel listed env env1 h hy ha H
    unfold stepI
    rw [hi]
    exact hY _ _ hy _ fun env2 h2 => ⟨fun d _ => .inr (d.ok_refl h), anyH_weak hsub fuel hK (fun t => by rw [ha t, h2 t]) H⟩
  induction fuel with
  | zero =>
    intro listed env env1 h _ hr hy ha H
    refine ⟨fun e => (by rw [e] at hr; cases hr), fun j hj => ?_⟩
    by_cases hji : j = i
    · subst hji; exact now 0 listed env env1 h hy ha H
    · have := ready_mono hj hji
      rw [H.1] at this
      cases this
  | succ fuel ih =>
    intro listed env env1 h hfree hr hy ha H
    refine ⟨fun e => (by rw [e] at hr; cases hr), fun j hj => ?_⟩
    by_cases hji : j = i
    · subst hji; exact now (fuel + 1) listed env env1 h hy ha H
    · have h1 := H.2 j (ready_mono hj hji)
      obtain ⟨hjun, oj, hoj, hall⟩ := mem_ready.1 hj
      have hnot : ∀ e ∈ oj.after, Region.binds .any e = true → e.on ≠ i := fun e he hb heq => by
        have h1 := hall e he hb
        have h0 := (mem_ready.1 hr).1
        rw [heq] at h1
        rcases Nat.lt_or_ge i listed.size with h' | h'
        · simp [h'] at h0 h1; rw [h0] at h1; cases h1
        · simp [Array.getElem?_eq_none h'] at h1
      have hw : waitsOn ops j i = false := by
        unfold waitsOn
        rw [hoj]
        simp only [Array.any_eq_false]
        intro q hq
        simp only [Bool.and_eq_true, beq_iff_eq, not_and]
        intro hb
        exact hnot _ (Array.getElem_mem hq) hb
      obtain ⟨a1, a2, a3⟩ := Oper.apart_spec (hfree j oj hoj hji hjun hnot)
      unfold stepI at h1 ⊢
      rw [hoj] at h1 ⊢
      refine step_same h1 (fun t ht => ?_) fun u h' e1 e2 q1 q2 k => ?_
      · rw [ha t, if_neg (fun e => a1 t e ht)]
      · refine ⟨fun d hd => k.1 d (hsub d hd), ih (listed.setIfInBounds j true) e2 e1 h' ?_ (ready_mono hr (Ne.symm hji)) ?_ ?_ ?_⟩
        · intro k ok hk hki hun hno
          refine hfree k ok hk hki ?_ hno
          by_cases hjk : j = k
          · subst hjk; exact hjun
          · rw [getD_set_ne true hjk] at hun; exact hun
        · refine hst env h e2 h' hy (fun t ht => ?_) (hT j h h' hw k.1)
          rw [q2 t, if_neg (fun e => a3 t e ht)]
        · intro t
          rw [q1 t, q2 t, ha t]
          by_cases x : oj.dst = some t <;> by_cases y : oi.dst = some t <;> simp [x, y]
          exact absurd x (a2 t y)
        · rw [Array.setIfInBounds_comm _ _ hji]
          exact k.2
end
end Go.Sim

/- Regions in whatever order; whole bodies: the predicate transformer, and that it is sound. -/
set_option linter.unusedSimpArgs false
namespace Go.Sim
open Go Go.RowKit

section
variable {P : Program} {N : Nat} {ops : Array Oper}

/-- A step that only reckons: one value, whatever the heap. -/
theorem calm_step {o : Oper} (hr : reckons P o.op = true) {env : Env} {h : AHeap} {K : Env → AHeap → Prop} (hs : stepA P N ops env h o K) :
    ∃ v, (∃ env1, After o env v env1 ∧ K env1 h) ∧ ∀ env' h', (∀ t ∈ o.looksAt ops, env.get t = env'.get t) → Yd P N ops o v env' h' := by
  have core : ∀ (e : Env) (A : AVal → AHeap → Prop), opA P e h o A → ∃ v, A v h ∧ ∀ (e2 : Env) (h2 : AHeap) (B : AVal → AHeap → Prop), (∀ x ∈ o.op.operands, ev e x = ev e2 x) → B v h2 → opA P e2 h2 o B := by
    intro e A ha
    obtain ⟨v, hv, r⟩ := det_calmA e o _ ((opA_reckons hr).1 ha)
    exact ⟨v, hv, fun e2 h2 B hx hb => (opA_congr hx).1 ((opA_reckons hr).2 (r (fun v => B v h2) hb))⟩
  have put : ∀ {e : Env} {v : AVal} {K : Env → Prop}, putA N e o.dst v K → (∃ e1, (∀ t, e1.get t = if o.dst = some t then v else e.get t) ∧ K e1) ∧ ∀ (e2 : Env) (K2 : Env → Prop), (∀ e3, (∀ t, e3.get t = if o.dst = some t then v else e2.get t) → K2 e3) → putA N e2 o.dst v K2 := by
    intro e v K hp
    unfold putA at *
    cases hd : o.dst with
    | none => simp only [hd] at hp ⊢; exact ⟨⟨e, by simp, hp⟩, fun e2 K2 h => h e2 (by simp)⟩
    | some d =>
      simp only [hd] at hp ⊢
      have hc := chk_elim hp
      refine ⟨⟨_, ?_, hc.2⟩, fun e2 K2 h => ?_⟩
      · intro t; rw [Env.get_set]; by_cases q : t = d
        · subst q; simp
        · rw [if_neg q, if_neg (by simp; exact fun x => q x.symm)]
      · unfold chk; rw [decide_eq_true hc.1]
        refine h _ fun t => ?_
        rw [Env.get_set]; by_cases q : t = d
        · subst q; simp
        · rw [if_neg q, if_neg (by simp; exact fun x => q x.symm)]
  unfold stepA at hs
  cases hg : o.guard with
  | none =>
    simp only [hg] at hs
    obtain ⟨v, hv, r⟩ := core env _ hs
    obtain ⟨⟨e1, h1, k1⟩, q⟩ := put hv
    refine ⟨v, ⟨e1, h1, k1⟩, fun env' h' hl K hK => ?_⟩
    unfold stepA
    simp only [hg]
    exact r env' h' _ (ev_agree hl) (q env' _ fun e3 a => hK e3 a)
  | some g =>
    obtain ⟨j, want⟩ := g
    simp only [hg] at hs
    cases ht : (ops[j]?).bind (·.dst) with
    | none => simp only [ht] at hs
    | some t =>
      simp only [ht] at hs
      split at hs
      · rename_i b hb
        have htl : ∀ env' : Env, (∀ t ∈ o.looksAt ops, env.get t = env'.get t) → env'.get t = .bool b := fun env' hl => by
          rw [← hl t (List.mem_append_right _ (by simp [hg, ht]))]; exact hb
        have go : ∀ c, b = c → opA P (env.set t (.bool c)) h o (fun v h' => putA N (env.set t (.bool c)) o.dst v fun env' => K env' h') → want = c →
            ∃ v, (∃ env1, After o env v env1 ∧ K env1 h) ∧ ∀ env' h', (∀ t ∈ o.looksAt ops, env.get t = env'.get t) → Yd P N ops o v env' h' := by
          intro c e ho hw
          subst e; subst hw
          obtain ⟨v, hv, r⟩ := core _ _ ho
          obtain ⟨⟨e1, h1, k1⟩, q⟩ := put hv
          refine ⟨v, ⟨e1, fun s => by rw [h1 s, get_know hb], k1⟩, fun env' h' hl K hK => ?_⟩
          have hb' := htl env' hl
          unfold stepA
          simp only [hg, ht, hb']
          have body : opA P (env'.set t (.bool want)) h' o fun v h'_1 => putA N (env'.set t (.bool want)) o.dst v fun env' => K env' h'_1 :=
            r _ h' _ (ev_agree fun s hs => by rw [get_know hb, get_know hb']; exact hl s hs) (q _ _ fun e3 a => hK e3 fun s => by rw [a s, get_know hb'])
          cases want <;> exact body
        have skip : ∀ c, b = c → putA N (env.set t (.bool c)) o.dst (.tup []) (fun env' => K env' h) → want ≠ c →
            ∃ v, (∃ env1, After o env v env1 ∧ K env1 h) ∧ ∀ env' h', (∀ t ∈ o.looksAt ops, env.get t = env'.get t) → Yd P N ops o v env' h' := by
          intro c e ho hw
          subst e
          obtain ⟨⟨e1, h1, k1⟩, q⟩ := put ho
          refine ⟨.tup [], ⟨e1, fun s => by rw [h1 s, get_know hb], k1⟩, fun env' h' hl K hK => ?_⟩
          have hb' := htl env' hl
          unfold stepA
          simp only [hg, ht, hb']
          have body : putA N (env'.set t (.bool b)) o.dst (.tup []) fun env' => K env' h' := q _ _ fun e3 a => hK e3 fun s => by rw [a s, get_know hb']
          cases b <;> cases want <;> first | exact body | exact absurd rfl hw
        cases b
        · cases want
          · exact go false rfl hs rfl
          · exact skip false rfl hs (by simp)
        · cases want
          · exact skip true rfl hs (by simp)
          · exact go true rfl hs rfl
      · rename_i hb
        obtain ⟨⟨e1, h1, k1⟩, q⟩ := put hs
        refine ⟨.tup [], ⟨e1, h1, k1⟩, fun env' h' hl K hK => ?_⟩
        have hb' : env'.get t = .tup [] := by rw [← hl t (List.mem_append_right _ (by simp [hg, ht]))]; exact hb
        unfold stepA
        simp only [hg, ht, hb']
        exact q _ _ fun e3 a => hK e3 a
      · exact hs.elim

theorem load_congr {t : TypeId} {h h' : AHeap} {p : AVal} {k : AVal → Prop} (hc : (match isAgg P t with | true => hRow h' p (P.cellsOf t) = hRow h p (P.cellsOf t) | false => hCell h' p = hCell h p)) (hk : loadA P t h p k) : loadA P t h' p k := by
  unfold loadA at *
  cases ha : isAgg P t with
  | true => simp only [ha] at hc hk ⊢; rw [hc]; exact hk
  | false => simp only [ha] at hc hk ⊢; rw [hc]; exact hk

/-- A step that only loads: one value, wherever what it loads is held. -/
theorem load_step {i : Nat} {o : Oper} (hi : ops[i]? = some o) (hr : loads o.op = true) {env : Env} {h : AHeap} {K : Env → AHeap → Prop} (hs : stepA P N ops env h o K) :
    ∃ v, (∃ env1, After o env v env1 ∧ K env1 h) ∧ ∀ env' h', (∀ t ∈ o.looksAt ops, env.get t = env'.get t) → (holdOf P ops i env).ok h h' → Yd P N ops o v env' h' := by
  obtain ⟨t, a, hop⟩ : ∃ t a, o.op = .load t a := by
    cases hq : o.op <;> simp [hq, loads] at hr
    exact ⟨_, _, rfl⟩
  have hold : ∀ h', (holdOf P ops i env).ok h h' → (match isAgg P t with | true => hRow h' (ev env a) (P.cellsOf t) = hRow h (ev env a) (P.cellsOf t) | false => hCell h' (ev env a) = hCell h (ev env a)) := by
    intro h' hh
    unfold holdOf Hold.ok at hh
    rw [hi] at hh
    simp only [hop] at hh
    cases ha : isAgg P t <;> simp only [ha] at hh ⊢ <;> exact hh
  have core : ∀ (e : Env) (A : AVal → AHeap → Prop), (∀ x ∈ o.op.operands, ev env x = ev e x) → opA P e h o A → ∃ v, A v h ∧ ∀ (e2 : Env) (h2 : AHeap) (B : AVal → AHeap → Prop), (∀ x ∈ o.op.operands, ev e x = ev e2 x) → (holdOf P ops i env).ok h h2 → B v h2 → opA P e2 h2 o B := by
    intro e A hx0 ha
    have hxa : ev env a = ev e a := hx0 a (by simp [hop, Op.operands])
    unfold opA at ha
    simp only [hop] at ha
    have hc := chk_elim ha
    obtain ⟨v, hv, r⟩ := det_loadA t h (ev e a) _ hc.2
    refine ⟨v, hv, fun e2 h2 B hx hh hb => (opA_congr hx).1 ?_⟩
    unfold opA
    simp only [hop]
    unfold chk; rw [decide_eq_true hc.1]
    have := hold h2 hh
    rw [hxa] at this
    exact load_congr this (r (fun v => B v h2) hb)
  have put : ∀ {e : Env} {v : AVal} {K : Env → Prop}, putA N e o.dst v K → (∃ e1, (∀ t, e1.get t = if o.dst = some t then v else e.get t) ∧ K e1) ∧ ∀ (e2 : Env) (K2 : Env → Prop), (∀ e3, (∀ t, e3.get t = if o.dst = some t then v else e2.get t) → K2 e3) → putA N e2 o.dst v K2 := by
    intro e v K hp
    unfold putA at *
    cases hd : o.dst with
    | none => simp only [hd] at hp ⊢; exact ⟨⟨e, by simp, hp⟩, fun e2 K2 h => h e2 (by simp)⟩
    | some d =>
      simp only [hd] at hp ⊢
      have hc := chk_elim hp
      refine ⟨⟨_, ?_, hc.2⟩, fun e2 K2 h => ?_⟩
      · intro t; rw [Env.get_set]; by_cases q : t = d
        · subst q; simp
        · rw [if_neg q, if_neg (by simp; exact fun x => q x.symm)]
      · unfold chk; rw [decide_eq_true hc.1]
        refine h _ fun t => ?_
        rw [Env.get_set]; by_cases q : t = d
        · subst q; simp
        · rw [if_neg q, if_neg (by simp; exact fun x => q x.symm)]
  unfold stepA at hs
  cases hg : o.guard with
  | none =>
    simp only [hg] at hs
    obtain ⟨v, hv, r⟩ := core env _ (fun _ _ => rfl) hs
    obtain ⟨⟨e1, h1, k1⟩, q⟩ := put hv
    refine ⟨v, ⟨e1, h1, k1⟩, fun env' h' hl hh K hK => ?_⟩
    unfold stepA
    simp only [hg]
    exact r env' h' _ (ev_agree hl) hh (q env' _ fun e3 a => hK e3 a)
  | some g =>
    obtain ⟨j, want⟩ := g
    simp only [hg] at hs
    cases ht : (ops[j]?).bind (·.dst) with
    | none => simp only [ht] at hs
    | some t =>
      simp only [ht] at hs
      split at hs
      · rename_i b hb
        have htl : ∀ env' : Env, (∀ t ∈ o.looksAt ops, env.get t = env'.get t) → env'.get t = .bool b := fun env' hl => by
          rw [← hl t (List.mem_append_right _ (by simp [hg, ht]))]; exact hb
        have go : ∀ c, b = c → opA P (env.set t (.bool c)) h o (fun v h' => putA N (env.set t (.bool c)) o.dst v fun env' => K env' h') → want = c →
            ∃ v, (∃ env1, After o env v env1 ∧ K env1 h) ∧ ∀ env' h', (∀ t ∈ o.looksAt ops, env.get t = env'.get t) → (holdOf P ops i env).ok h h' → Yd P N ops o v env' h' := by
          intro c e ho hw
          subst e; subst hw
          obtain ⟨v, hv, r⟩ := core _ _ (ev_agree (ops := ops) fun s _ => by rw [get_know hb]) ho
          obtain ⟨⟨e1, h1, k1⟩, q⟩ := put hv
          refine ⟨v, ⟨e1, fun s => by rw [h1 s, get_know hb], k1⟩, fun env' h' hl hh K hK => ?_⟩
          have hb' := htl env' hl
          unfold stepA
          simp only [hg, ht, hb']
          have body : opA P (env'.set t (.bool want)) h' o fun v h'_1 => putA N (env'.set t (.bool want)) o.dst v fun env' => K env' h'_1 :=
            r _ h' _ (ev_agree fun s hs => by rw [get_know hb, get_know hb']; exact hl s hs) hh (q _ _ fun e3 a => hK e3 fun s => by rw [a s, get_know hb'])
          cases want <;> exact body
        have skip : ∀ c, b = c → putA N (env.set t (.bool c)) o.dst (.tup []) (fun env' => K env' h) → want ≠ c →
            ∃ v, (∃ env1, After o env v env1 ∧ K env1 h) ∧ ∀ env' h', (∀ t ∈ o.looksAt ops, env.get t = env'.get t) → (holdOf P ops i env).ok h h' → Yd P N ops o v env' h' := by
          intro c e ho hw
          subst e
          obtain ⟨⟨e1, h1, k1⟩, q⟩ := put ho
          refine ⟨.tup [], ⟨e1, fun s => by rw [h1 s, get_know hb], k1⟩, fun env' h' hl _ K hK => ?_⟩
          have hb' := htl env' hl
          unfold stepA
          simp only [hg, ht, hb']
          have body : putA N (env'.set t (.bool b)) o.dst (.tup []) fun env' => K env' h' := q _ _ fun e3 a => hK e3 fun s => by rw [a s, get_know hb']
          cases b <;> cases want <;> first | exact body | exact absurd rfl hw
        cases b
        · cases want
          · exact go false rfl hs rfl
          · exact skip false rfl hs (by simp)
        · cases want
          · exact skip true rfl hs (by simp)
          · exact go true rfl hs rfl
      · rename_i hb
        obtain ⟨⟨e1, h1, k1⟩, q⟩ := put hs
        refine ⟨.tup [], ⟨e1, h1, k1⟩, fun env' h' hl _ K hK => ?_⟩
        have hb' : env'.get t = .tup [] := by rw [← hl t (List.mem_append_right _ (by simp [hg, ht]))]; exact hb
        unfold stepA
        simp only [hg, ht, hb']
        exact q _ _ fun e3 a => hK e3 a
      · exact hs.elim

theorem keep_ext {env env' : Env} (h : EnvEq env env') (ks : List Nat) : env.keep ks = env'.keep ks := List.map_congr_left fun t _ => by rw [h t]
theorem Hold.ok_trans {d : Hold} {a b c : AHeap} (h : d.ok a b) (k : d.ok b c) : d.ok a c := by
  unfold Hold.ok at *; split at h <;> simp_all

theorem draw_any {ks : List Nat} {K : Env → AHeap → Prop} : ∀ (f : Nat) (listed : Array Bool) (hs : List Hold) (env : Env) (h : AHeap), drawA P N ops ks K f listed hs env h →
    anyH P N ops (fun env h => K (env.keep ks) h) hs f listed env h
  | 0, listed, hs, env, h, hd => by
    unfold drawA at hd
    split at hd
    · rename_i hr; exact ⟨hr, hd⟩
    · exact hd.elim
  | f + 1, listed, hs, env, h, hd => by
    have hK : ∀ e e' h, EnvEq e e' → K (e.keep ks) h → K (e'.keep ks) h := fun e e' h he hk => by rw [← keep_ext he]; exact hk
    unfold drawA at hd
    split at hd
    · rename_i hr; exact ⟨fun _ => hd, by rw [hr]; simp⟩
    · rename_i hne
      split at hd
      · rename_i i hi
        have hmem := List.mem_of_find?_eq_some hi
        have hp := List.find?_some hi
        simp only [Bool.and_eq_true] at hp
        obtain ⟨hp1, hp2⟩ := hp
        unfold opIs at hp1
        split at hp1
        · rename_i o ho
          unfold stepI at hd
          rw [ho] at hd
          obtain ⟨v, ⟨env1, ha, hk⟩, hy⟩ := calm_step hp1 hd
          exact anyH_first (T := fun _ _ => True) (Y := fun e _ => ∀ t ∈ o.looksAt ops, env.get t = e.get t) hK (hs' := hs) (fun d hd => hd) ho (fun _ _ _ _ _ => trivial) (fun e h' he => hy e h' he)
            (fun e1 _ e2 _ y hl _ t ht => (y t ht).trans (hl t ht)) f listed env env1 h (Region.free_spec ho hp2) hmem (fun _ _ => rfl) ha (draw_any f _ _ _ _ hk)
        · cases hp1
      · split at hd
        · rename_i i hi
          have hi' : (Region.ready .any ops listed).find? (fun i => opIs ops loads i && Region.free .any ops listed i) = some i := by
            split at hi
            · cases hi
            · exact hi
          have hmem := List.mem_of_find?_eq_some hi'
          have hp := List.find?_some hi'
          simp only [Bool.and_eq_true] at hp
          obtain ⟨hp1, hp2⟩ := hp
          unfold opIs at hp1
          split at hp1
          · rename_i o ho
            unfold stepI at hd
            rw [ho] at hd
            obtain ⟨v, ⟨env1, ha, hk⟩, hy⟩ := load_step ho hp1 hd
            have hid : (holdOf P ops i env).i = i := by unfold holdOf; split <;> (try split) <;> (try split) <;> rfl
            exact anyH_first (T := fun a b => (holdOf P ops i env).ok a b) (Y := fun e h' => (∀ t ∈ o.looksAt ops, env.get t = e.get t) ∧ (holdOf P ops i env).ok h h') hK (hs' := holdOf P ops i env :: hs) (fun d hd => List.mem_cons_of_mem _ hd) ho
              (fun j a b hw hall => by
                have := hall _ (List.mem_cons_self ..)
                rw [hid, hw] at this
                exact this.resolve_left (by simp)) (fun e h' he => hy e h' he.1 he.2)
              (fun e1 _ e2 _ y hl ht => ⟨fun t htt => (y.1 t htt).trans (hl t htt), Hold.ok_trans y.2 ht⟩) f listed env env1 h (Region.free_spec ho hp2) hmem ⟨fun _ _ => rfl, Hold.ok_refl _ _⟩ ha (draw_any f _ _ _ _ hk)
          · cases hp1
        · refine ⟨fun hr => absurd hr hne, fun i hi => ?_⟩
          have := allR_elim hd i hi
          unfold stepI at this ⊢
          cases ho : ops[i]? with
          | none =>
            rw [ho] at this
            obtain ⟨a, b⟩ := holdsK_elim this
            exact ⟨a, draw_any f _ _ _ _ b⟩
          | some o =>
            rw [ho] at this
            refine step_same this (fun _ _ => rfl) fun v h' e1 e2 q1 q2 k => ?_
            obtain ⟨a, b⟩ := holdsK_elim k
            exact ⟨a, anyH_weak (fun d hd => hd) f hK (fun t => by rw [q1 t, q2 t]) (draw_any f _ _ _ _ b)⟩
end
end Go.Sim
