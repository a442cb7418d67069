/- A part of the proof of a statement of this seat: see the text that holds the theorem. No condition. -/
import Derived.Test.YtlljbdepamknoaaGreatDoorSimJ
set_option linter.unusedVariables false
set_option linter.unusedSimpArgs false
set_option linter.all false
set_option linter.unusedSimpArgs false
namespace Go.Sim
open Go Go.RowKit

section
variable {P : Program} {K K' : Zaq → Zaa → Prop} {k k' : Zaq → Prop}

theorem Yii {o : Option Zaq} {K K' : Bool → Prop} (h : Zbr o K) (m : ∀ b, K b → K' b) : Zbr o K' := by
  unfold Zbr at *; split at h <;> first | exact m _ h | exact h.elim
theorem Ylt {q : IntKind} {o : Option Zaq} {K K' : Int → Prop} (h : Zem q o K) (m : ∀ b, K b → K' b) : Zem q o K' := by
  unfold Zem at *; split at h <;> first | exact ⟨h.1, m _ h.2⟩ | exact h.elim
theorem Zxk {o : Option Zaq} {K K' : List Nat → Prop} (h : Zaz o K) (m : ∀ b, K b → K' b) : Zaz o K' := by
  unfold Zaz at *; split at h <;> first | exact m _ h | exact h.elim
theorem Zsh {o : Option Zaq} {K K' : Option (Nat × Nat) → Prop} (h : Zhs o K) (m : ∀ b, K b → K' b) : Zhs o K' := by
  unfold Zhs at *; split at h <;> first | exact m _ h | exact h.elim
theorem Yog {o : Option Zaq} {K K' : Option (Nat × Nat) → Nat → Nat → Bool → Prop} (h : xSl o K) (m : ∀ a b c d, K a b c d → K' a b c d) : xSl o K' := by
  unfold xSl at *; split at h <;> first | exact m _ _ _ _ h | exact h.elim
theorem Yjl {o : Option Zaq} {K K' : Option Nat → Prop} (h : Ymc o K) (m : ∀ b, K b → K' b) : Ymc o K' := by
  unfold Ymc at *; split at h <;> first | exact m _ h | exact h.elim
theorem Zqd {o : Option Zaq} (h : Zxl o k) (m : ∀ b, k b → k' b) : Zxl o k' := by
  unfold Zxl at *; split at h <;> first | exact m _ h | exact h.elim
theorem Zyo {cs : List Zaq} {K K' : Zaq → List Zaq → Prop} (h : Zad cs K) (m : ∀ a b, K a b → K' a b) : Zad cs K' := by
  unfold Zad at *; split at h <;> first | exact m _ _ h | exact h.elim
theorem Ycr {cs : List Zaq} {K K' : Prop} (h : Zbl cs K) (m : K → K') : Zbl cs K' := by
  unfold Zbl at *; split at h <;> first | exact m h | exact h.elim
theorem Zgg {o : Option (List Zaq)} {K K' : List Zaq → Prop} (h : Zce o K) (m : ∀ b, K b → K' b) : Zce o K' := by
  unfold Zce at *; split at h <;> first | exact m _ h | exact h.elim
theorem Zyg {o : Option Zaa} {K K' : Zaa → Prop} (h : Zbw o K) (m : ∀ b, K b → K' b) : Zbw o K' := by
  unfold Zbw at *; split at h <;> first | exact m _ h | exact h.elim
theorem Yjx {v : Zaq} {K K' : List Zaq → Prop} (h : Zic v K) (m : ∀ b, K b → K' b) : Zic v K' := by
  unfold Zic at *; split at h <;> first | exact m _ h | exact h.elim
theorem Yjd {v : Zaq} {K K' : List Zaq → Prop} (h : Zjg v K) (m : ∀ b, K b → K' b) : Zjg v K' := by
  unfold Zjg at *; split at h <;> first | exact m _ h | exact h.elim
theorem Zvq {o : Option Field} {K K' : Field → Prop} (h : Zrm o K) (m : ∀ b, K b → K' b) : Zrm o K' := by
  unfold Zrm at *; split at h <;> first | exact m _ h | exact h.elim
theorem Zch {p : Prop} [Decidable p] {K K' : Prop} (h : chk p K) (m : K → K') : chk p K' := by
  unfold chk at *; split at h <;> first | exact m h | exact h.elim
theorem Zmk {o : Option Zaq} {d : Int} {K K' : Int → Prop} (h : Zld o d K) (m : ∀ b, K b → K' b) : Zld o d K' := by
  unfold Zld at *; split at h <;> first | exact m _ h | exact h.elim
theorem Yhi {b : Bool} {A B A' B' : Prop} (h : bcase b A B) (m : A → A') (n : B → B') : bcase b A' B' := by
  unfold bcase at *; split at h <;> first | exact m h | exact n h
theorem Znn {s : Sh} {o : Option Zaq} (h : xv s o k) (m : ∀ v, k v → k' v) : xv s o k' := by
  cases s <;> simp only [xv] at *
  · exact Yii h fun _ => m _
  · exact Ylt h fun _ => m _
  · exact Zxk h fun _ => m _
  · exact Zsh h fun _ => m _
  · exact Yog h fun _ _ _ _ => m _
  · exact Yjl h fun _ => m _
  · exact Zqd h m
theorem Ydn : ∀ {ss : List Sh} {cs : List Zaq} {K K' : List Zaq → Prop}, xs ss cs K → (∀ v, K v → K' v) → xs ss cs K'
  | [], _, _, _, h, m => Ycr h (m _)
  | _ :: _, _, _, _, h, m => Zyo h fun _ _ h => Znn h fun _ h => Ydn h fun _ => m _
theorem Ylg {t : TypeId} {v : Zaq} (h : xt P t v k) (m : ∀ v, k v → k' v) : xt P t v k' := by
  unfold xt at *
  split at h
  · exact Yjx h fun _ h => Ydn h fun _ => m _
  · exact Znn h m
theorem Yfq : ∀ {ts : List TypeId} {cs : List Zaq} {K K' : List Zaq → Prop}, xts P ts cs K → (∀ v, K v → K' v) → xts P ts cs K'
  | [], _, _, _, h, m => Ycr h (m _)
  | _ :: _, _, _, _, h, m => Zyo h fun _ _ h => Ylg h fun _ h => Yfq h fun _ => m _
theorem Ycs {ts : List TypeId} {v : Zaq} (h : Ypq P ts v k) (m : ∀ v, k v → k' v) : Ypq P ts v k' := by
  unfold Ypq at *
  split at h
  · exact m _ h
  · exact Ylg h m
  · exact Yjd h fun _ h => Yfq h fun _ => m _
theorem Ygw {t : TypeId} {h : Zaa} {p : Zaq} (hh : Zux P t h p k) (m : ∀ v, k v → k' v) : Zux P t h p k' := by
  unfold Zux at *
  split at hh
  · exact Zgg hh fun _ h => Ydn h fun _ => m _
  · exact Znn hh m
theorem Ydf {t : TypeId} {h : Zaa} {p v : Zaq} {K K' : Zaa → Prop} (hh : Zyt P t h p v K) (m : ∀ v, K v → K' v) : Zyt P t h p v K' := by
  unfold Zyt at *
  split at hh
  · split at hh
    · exact Zyg hh m
    · exact hh.elim
  · exact hh.elim
theorem Yhp {a b : Option (Nat × Nat)} {K K' : Bool → Prop} (h : Ydi a b K) (m : ∀ b, K b → K' b) : Ydi a b K' := by
  unfold Ydi at *
  split at h
  · exact m _ h
  · split at h
    · exact m _ h
    · exact h.elim
theorem Zku {a : Option (Nat × Nat)} {K K' : Nat → Nat → Prop} (h : Zbf a K) (m : ∀ b o, K b o → K' b o) : Zbf a K' := by
  obtain ⟨b, o, rfl, h⟩ := Zcc h
  exact m _ _ h
theorem Ygf {t : TypeId} {x y : Zaq} {K K' : Bool → Prop} (h : eqA P t x y K) (m : ∀ b, K b → K' b) : eqA P t x y K' := by
  unfold eqA at *
  split at h <;> (try exact h.elim) <;> split at h <;> (try exact h.elim)
  · exact Zch h (m _)
  · exact m _ h
  · exact Zch h (m _)
  · exact Zch h fun h => Yhp h m
  · split at h
    · exact m _ h
    · exact h.elim
  · exact Zch h fun h => ⟨h.1, m _ h.2⟩
theorem Yji {op : BinOp} {t : TypeId} {x y : Zaq} (h : Ymm P op t x y k) (m : ∀ v, k v → k' v) : Ymm P op t x y k' := by
  unfold Ymm at *
  split at h
  · exact Ygf h fun _ => m _
  · exact Ygf h fun _ => m _
  · split at h
    · split at h
      · split at h <;> first
          | exact h.elim
          | exact Zch h (m _)
          | exact Zch h fun h => ⟨h.1, m _ h.2⟩
          | exact ⟨h.1, m _ h.2⟩
      · exact h.elim
    · split at h
      · split at h <;> first
          | exact h.elim
          | exact ⟨h.1, m _ h.2⟩
          | exact m _ h
      · exact h.elim
    · exact h.elim
theorem Zyp {t : TypeId} {cs : List Zaq} {off : Nat} (h : Zxv P t cs off k) (m : ∀ v, k v → k' v) : Zxv P t cs off k' := by
  unfold Zxv at *
  split at h
  · exact m _ h
  · exact Zch h fun h => Zqd h m
theorem Ykz {ts : Array TypeId} {xs : List Zaq} (h : Yqn P ts xs k) (m : ∀ v, k v → k' v) : Yqn P ts xs k' := by
  unfold Yqn at *
  split at h <;> first | exact h.elim | exact Zch h (m _)
theorem Ygv {s d : TypeId} {x : Zaq} (h : Yem P s d x k) (m : ∀ v, k v → k' v) : Yem P s d x k' := by
  unfold Yem at *
  split at h
  · split at h <;> first | exact h.elim | exact Zch h (m _)
  · split at h <;> first | exact h.elim | exact Zch h (m _) | exact Zch h fun h => ⟨h.1, m _ h.2⟩
  · exact h.elim
theorem Ydo {t : TypeId} {x : Zaq} {lo hi mx : Option Zaq} (h : Zyf P t x lo hi mx k) (m : ∀ v, k v → k' v) : Zyf P t x lo hi mx k' := by
  unfold Zyf at *
  split at h
  · split at h
    · exact Zch h fun h => Zmk h fun _ h => Zmk h fun _ h => ⟨h.1, m _ h.2⟩
    · exact h.elim
  · split at h
    · refine Zch h fun h => Zch h fun h => Zmk h fun _ h => Zmk h fun _ h => Zmk h fun _ h => ⟨h.1, ?_⟩
      have h2 := h.2
      split at h2
      · exact ⟨h2.1, m _ h2.2⟩
      · exact ⟨fun a => m _ (h2.1 a), fun a => m _ (h2.2 a)⟩
    · exact h.elim
  · exact h.elim
theorem Znv {env : Env} {o : Oper} (h : Zpx P env o k) (m : ∀ v, k v → k' v) : Zpx P env o k' := by
  obtain ⟨dst, op, type, pos, after, guard⟩ := o
  unfold Zpx at *
  cases op <;> simp only at h ⊢ <;> (try exact h.elim)
  case move x => exact m _ h
  case assign x => exact m _ h
  case pick c a b =>
    unfold Yja at *
    split at h
    · exact Yhi h (m _) (m _)
    · exact h.elim
  case nilCheck x =>
    unfold Ysp at *
    split at h <;> first | exact h.elim | exact m _ h | exact Zku h fun _ _ => m _
  case fieldAddr t x i =>
    unfold Zhc at *
    split at h
    · exact Zvq h fun _ h => Zch h fun h => Zch h fun h => Zku h fun _ _ => m _
    · exact h.elim
  case field t x i =>
    unfold Ybt at *
    split at h
    · exact Zvq h fun _ h => Zyp h m
    · exact h.elim
  case indexAddr t x i =>
    unfold Zns at *
    split at h
    · split at h
      · split at h <;> first | exact h.elim | exact Zch h fun h => ⟨h.1, Zku h.2 fun _ _ => m _⟩
      · split at h <;> first | exact h.elim | exact Zch h fun h => ⟨h.1, Zku h.2 fun _ _ => m _⟩
      · exact h.elim
    · exact h.elim
  case index t x i =>
    unfold Ycb at *
    split at h
    · split at h
      · split at h
        · exact ⟨h.1, m _ h.2⟩
        · exact h.elim
      · split at h
        · exact Zch h fun h => ⟨h.1, Zyp h.2 m⟩
        · exact h.elim
      · exact h.elim
    · exact h.elim
  case slice t x lo hi mx => exact Ydo h m
  case binOp op t x y yt => exact Yji h m
  case unOp op t x =>
    unfold unA at *
    split at h
    · split at h <;> first | exact h.elim | exact m _ h
    · split at h <;> first | exact h.elim | exact m _ h
    · exact h.elim
  case convert s d x => exact Ygv h m
  case extract x i =>
    unfold Zsm at *
    split at h
    · exact Zqd h m
    · exact h.elim
  case makeFunc fn first caps =>
    cases fn <;> simp only at h ⊢ <;> first | exact h.elim | exact Zch h (m _)
  case call c =>
    split at h
    · exact Ykz h m
    · exact h.elim
theorem Zwg {h : Zaa} {j : Nat} {e : TypeId} {A B : List Zaq → Prop} (hh : Zqj h j e A) (m : ∀ cs, A cs → B cs) : Zqj h j e B := by
  unfold Zqj at *
  split at hh
  · exact ⟨hh.1, m _ hh.2⟩
  · exact hh.elim
theorem Ybi {t : TypeId} {h : Zaa} {s x : Zaq} (hh : Zcs P t h s x K) (m : ∀ v h, K v h → K' v h) : Zcs P t h s x K' := by
  unfold Zcs at *
  split at hh <;> (try exact hh.elim)
  split at hh <;> (try exact hh.elim)
  split at hh <;> (try exact hh.elim)
  refine Zgg hh fun new h => ⟨h.1, ?_⟩
  have h2 := h.2
  split at h2
  · exact ⟨fun a => m _ _ (h2.1 a), fun a => ⟨(h2.2 a).1, m _ _ (h2.2 a).2⟩⟩
  · rcases h2 with ⟨a, b⟩ | ⟨a, b⟩ | ⟨a, b⟩
    · exact .inl ⟨a, Zwg b fun _ h => ⟨h.1, m _ _ h.2⟩⟩
    · exact .inr (.inl ⟨a, Zwg b fun _ h => ⟨h.1, m _ _ h.2⟩⟩)
    · exact .inr (.inr ⟨a, Zgg b fun _ => m _ _⟩)
theorem Zvo : ∀ {cs : List Zaq} {K K' : List Nat → Prop}, Zml cs K → (∀ s, K s → K' s) → Zml cs K'
  | [], _, _, h, m => m _ h
  | .int k n :: r, _, _, h, m => by
    unfold Zml at *
    exact Zch h fun h => ⟨h.1, Zvo h.2 fun _ => m _⟩
  | .undef :: _, _, _, h, _ | .bool _ :: _, _, _, h, _ | .str _ :: _, _, _, h, _ | .ptr _ :: _, _, _, h, _ | .slice .. :: _, _, _, h, _ | .map _ :: _, _, _, h, _ | .fn .. :: _, _, _, h, _ | .nilFn :: _, _, _, h, _ | .iter _ :: _, _, _, h, _
  | .agg _ :: _, _, _, h, _ | .tup _ :: _, _, _, h, _ => by unfold Zml at h; exact h.elim
theorem Yjc {s d : TypeId} {h : Zaa} {x : Zaq} {K K' : Zaq → Prop} (hh : Yqt P s d h x K) (m : ∀ v, K v → K' v) : Yqt P s d h x K' := by
  unfold Yqt at *
  split at hh
  · refine Zch hh fun h => ?_
    split at h
    · exact Zgg h fun _ h => Zvo h fun _ => m _
    · exact h.elim
  · exact hh.elim
theorem Ylf {x y : Zaq} {K K' : Zaq → Prop} (hh : Yqr x y K) (m : ∀ v, K v → K' v) : Yqr x y K' := by
  unfold Yqr at *
  split at hh
  · split at hh
    · exact Zch hh (m _)
    · exact hh.elim
  · exact hh.elim
theorem Zvm {t : TypeId} {a b : Zaq} {h : Zaa} {K K' : Zaq → Zaa → Prop} (hh : Zly P t a b h K) (m : ∀ v h, K v h → K' v h) : Zly P t a b h K' := by
  unfold Zly at *
  split at hh
  · refine Zgg hh fun _ h => Zch h fun h => ?_
    unfold Zem at *
    split at h
    · refine ⟨h.1, ?_⟩
      replace h := h.2
      split at h
      · exact ⟨h.1, h.2.1, m _ _ h.2.2⟩
      · exact h.elim
    · exact h.elim
  · exact hh.elim
theorem Zgk {h : Zaa} {m : Option Nat} {K K' : List ME → Nat → Prop} (hh : Zgd h m K) (m' : ∀ a b, K a b → K' a b) : Zgd h m K' := by
  unfold Zgd at *
  split at hh
  · exact m' _ _ hh
  · split at hh
    · exact m' _ _ hh
    · exact hh.elim
theorem Ygz {es : List ME} {s : List Nat} {K K' : Option Zaq → Prop} (hh : Zxr es s K) (m : ∀ a, K a → K' a) : Zxr es s K' := by
  unfold Zxr at *; split at hh <;> first | exact m _ hh | exact hh.elim
theorem Yln {es : List ME} {clk : Nat} {s : List Nat} {v : Zaq} {K K' : List ME → Nat → Prop} (hh : Ymn es clk s v K) (m : ∀ a b, K a b → K' a b) : Ymn es clk s v K' := by
  unfold Ymn at *; split at hh <;> first | exact m _ _ hh | exact hh.elim
theorem Zvf {m : Option Nat} {K K' : Nat → Prop} (hh : xMp m K) (mm : ∀ a, K a → K' a) : xMp m K' := by
  unfold xMp at *; split at hh <;> first | exact mm _ hh | exact hh.elim
theorem Yhf {h : Zaa} {r : Nat} {K K' : List Nat → Nat → Prop} (hh : Yhv h r K) (m : ∀ a b, K a b → K' a b) : Yhv h r K' := by
  unfold Yhv at *; split at hh <;> first | exact m _ _ hh | exact hh.elim
theorem Zvt {h : Zaa} {r : Nat} {K K' : Option Nat → Nat → List Nat → Nat → Prop} (hh : Zwx h r K) (m : ∀ a b c d, K a b c d → K' a b c d) : Zwx h r K' := by
  unfold Zwx at *; split at hh <;> first | exact m _ _ _ _ hh | exact hh.elim
theorem Ycf {t : TypeId} {h : Zaa} {x i : Zaq} {ok : Bool} (hh : Zuf P t h x i ok k) (m : ∀ v, k v → k' v) : Zuf P t h x i ok k' := by
  unfold Zuf at *
  split at hh
  · refine Zch hh fun h => ?_
    split at h
    · exact Zxk h fun _ h => Zqd h fun _ h => Zgk h fun _ _ h => Ygz h fun _ h => Znn h fun _ => m _
    · exact h.elim
  · exact hh.elim
theorem Zwu {t : TypeId} {h : Zaa} {x i v : Zaq} (hh : Zlz P t h x i v K) (m : ∀ v h, K v h → K' v h) : Zlz P t h x i v K' := by
  unfold Zlz at *
  split at hh
  · refine Zch hh fun h => ?_
    split at h
    · exact Zvf h fun _ h => Zxk h fun _ h => Zgk h fun _ _ h => Yln h fun _ _ => m _ _
    · exact h.elim
  · exact hh.elim
theorem Zzb {t : TypeId} {r : Option Zaq} {h : Zaa} (hh : Zqp P t r h K) (m : ∀ v h, K v h → K' v h) : Zqp P t r h K' := by
  unfold Zqp at *
  split at hh <;> first | exact m _ _ hh | exact Zch hh (m _ _) | exact hh.elim
theorem Yeb {t : TypeId} {x : Zaq} {h : Zaa} (hh : Zyk P t x h K) (m : ∀ v h, K v h → K' v h) : Zyk P t x h K' := by
  unfold Zyk at *
  split at hh <;> first | exact hh.elim | exact Zch hh (m _ _) | exact Zch hh fun h => Zgk h fun _ _ => m _ _
theorem Ylu {m : Option Nat} {A B A' B' : Prop} (hh : Ysn m A B) (p : A → A') (q : B → B') : Ysn m A' B' := by
  unfold Ysn at *; split at hh <;> first | exact p hh | exact q hh
theorem Yhm {ty : TypeId} {x : Zaq} {st : Bool} {h : Zaa} (hh : Ygp P ty x st h K) (m : ∀ v h, K v h → K' v h) : Ygp P ty x st h K' := by
  unfold Ygp at *
  split at hh
  · split at hh
    · exact Yhf hh fun _ _ h => ⟨fun a => ⟨(h.1 a).1, m _ _ (h.1 a).2⟩, fun a => m _ _ (h.2 a)⟩
    · exact Zvt hh fun _ _ _ _ h => Ylu h (m _ _) fun h => Zgk h fun _ _ h => ⟨h.1, fun a => m _ _ (h.2.1 a), fun e he hn => Znn (h.2.2 e he hn) fun _ h => Znn h fun _ => m _ _⟩
  · exact hh.elim
theorem Yep {ty : TypeId} {x : Zaq} {h : Zaa} (hh : Zyq P ty x h k) (m : ∀ v, k v → k' v) : Zyq P ty x h k' := by
  unfold Zyq at *
  split at hh
  · exact Zvt hh fun _ _ _ _ h => Zvf h fun _ h => Zgk h fun _ _ h => ⟨h.1, h.2.imp fun _ h => ⟨h.1, h.2.imp fun _ h => ⟨h.1, Znn h.2 fun _ h => Znn h fun _ => m _⟩⟩⟩
  · exact hh.elim
theorem Zvs {h : Zaa} {a b : Option (Nat × Nat)} {K K' : Bool → Prop} (hh : Zwn h a b K) (m : ∀ e, K e → K' e) : Zwn h a b K' := by
  unfold Zwn at *
  split at hh
  · exact m _ hh
  · split at hh
    · exact m _ hh
    · exact hh.imp (fun h => ⟨h.1, m _ h.2⟩) fun h => ⟨h.1, h.2.1, h.2.2.1, m _ h.2.2.2⟩
theorem Yjf {op : BinOp} {t : TypeId} {h : Zaa} {a b : Option (Nat × Nat)} (hh : Ypf P op t h a b K) (m : ∀ v h, K v h → K' v h) : Ypf P op t h a b K' := by
  unfold Ypf at *
  split at hh
  · exact Zch hh fun h => Zvs h fun _ => m _ _
  · exact Zch hh fun h => Zvs h fun _ => m _ _
  · exact hh.elim
theorem Yhc {r : Option (Option (Nat × Zaq))} {K K' : Option Zaq → Prop} (hh : Yik r K) (m : ∀ e, K e → K' e) : Yik r K' := by
  unfold Yik at *; split at hh <;> first | exact m _ hh | exact hh.elim
theorem Yjj {r : Option (Option (Nat × Zaq))} {es : List ME} {clk : Nat} {p : Nat × Nat} {v : Zaq} {K K' : List ME → Nat → Prop} (hh : Yrg r es clk p v K) (m : ∀ a b, K a b → K' a b) : Yrg r es clk p v K' := by
  unfold Yrg at *; split at hh <;> first | exact m _ _ hh | exact hh.elim
theorem Yls {r : Option (Option (Nat × Zaq))} {es : List ME} {K K' : List ME → Prop} (hh : Yrp r es K) (m : ∀ a, K a → K' a) : Yrp r es K' := by
  unfold Yrp at *; split at hh <;> first | exact m _ hh | exact hh.elim
theorem Zzn {t : TypeId} {h : Zaa} {x i : Zaq} {ok : Bool} (hh : Zqx P t h x i ok k) (m : ∀ v, k v → k' v) : Zqx P t h x i ok k' := by
  unfold Zqx at *
  split at hh
  · refine Zch hh fun h => ?_
    split at h
    · exact Zsh h fun _ h => Zku h fun _ _ h => Zqd h fun _ h => Zgk h fun _ _ h => Yhc h fun _ h => Znn h fun _ => m _
    · exact h.elim
  · exact hh.elim
theorem Zut {t : TypeId} {h : Zaa} {x i v : Zaq} (hh : Zkr P t h x i v K) (m : ∀ v h, K v h → K' v h) : Zkr P t h x i v K' := by
  unfold Zkr at *
  split at hh
  · refine Zch hh fun h => ?_
    split at h
    · exact Zvf h fun _ h => Zsh h fun _ h => Zku h fun _ _ h => Zgk h fun _ _ h => Yjj h fun _ _ => m _ _
    · exact h.elim
  · exact hh.elim
theorem Ybu {t : TypeId} {h : Zaa} {x i : Zaq} (hh : Ztm P t h x i K) (m : ∀ v h, K v h → K' v h) : Ztm P t h x i K' := by
  unfold Ztm at *
  split at hh
  · refine Zch hh fun h => ?_
    split at h
    · exact Zvf h fun _ h => Zsh h fun _ h => Zku h fun _ _ h => Zgk h fun _ _ h => Yls h fun _ => m _ _
    · exact h.elim
  · exact hh.elim
theorem Yoi {env : Env} {h : Zaa} {o : Oper} (hh : opA P env h o K) (m : ∀ v h, K v h → K' v h) : opA P env h o K' := by
  obtain ⟨dst, op, type, pos, after, guard⟩ := o
  unfold opA at *
  cases op <;> simp only at hh ⊢
  case load t a => exact Zch hh fun h => Ygw h fun _ => m _ _
  case store t a x => exact Zch hh fun h => Ydf h fun _ => m _ _
  case alloc t => exact Zgg hh fun _ => m _ _
  case box t x => exact Zgg hh fun _ => m _ _
  case build t ps =>
    refine Zgg hh fun _ h => ?_
    split at h
    · exact Zch h fun h => Zgg h fun _ => m _ _
    · exact Zch h fun h => Zgg h fun _ => m _ _
    · exact h.elim
  case buildSlice t n ps =>
    unfold Zol at *
    split at hh
    · exact Zgg hh fun _ h => Zch h fun h => Zgg h fun _ => m _ _
    · exact hh.elim
  case call c =>
    unfold Ylw at *
    split at hh
    · split at hh
      · exact Zag.mono hh fun _ _ h => Ycs h fun _ => m _ _
      · unfold Ysw Yqy at *
        split at hh
        · exact Zag.mono hh fun _ _ h => Ycs h fun _ => m _ _
        · exact hh.elim
    · split at hh
      · refine Zch hh fun h => ?_
        split at h
        · exact Ybi h fun _ _ h => Znn h fun _ => m _ _
        · exact h.elim
      · exact hh.elim
    · split at hh
      · exact Ylf hh fun _ => m _ _
      · exact hh.elim
    · split at hh
      · split at hh
        · unfold Yey at *
          split at hh
          · split at hh
            · refine ⟨fun h0 => m _ _ (hh.1 h0), fun h0 => Zgg (hh.2 h0) fun _ h => Zch h fun h => Zyg h fun _ => m _ _⟩
            · exact hh.elim
          · exact hh.elim
        · exact hh.elim
      · exact hh.elim
    · split at hh
      · split at hh
        · exact Ybu hh m
        · exact hh.elim
      · exact hh.elim
    · exact Znv hh fun _ => m _ _
  case makeSlice t l c => exact Zvm hh m
  case makeMap t r => exact Zzb hh m
  case lookup t x i ok =>
    split at hh
    · exact Zzn hh fun _ => m _ _
    · exact Ycf hh fun _ => m _ _
  case mapUpdate t mm k v =>
    split at hh
    · exact Zut hh m
    · exact Zwu hh m
  case binOp op t x y yt =>
    split at hh
    · split at hh
      · exact Yjf hh m
      · exact Znv hh fun _ => m _ _
    · exact Znv hh fun _ => m _ _
  case range t x => exact Yeb hh m
  case next x st => exact Yhm hh m
  case entry x => exact Yep hh fun _ => m _ _
  case convert s d x =>
    split at hh
    · exact Yjc hh fun _ => m _ _
    · exact Znv hh fun _ => m _ _
  all_goals exact Znv hh fun _ => m _ _
end
end Go.Sim

set_option linter.unusedSimpArgs false
namespace Go.Sim
open Go Go.RowKit

def Det {α : Type} (F : (α → Prop) → Prop) : Prop := ∀ k, F k → ∃ v, k v ∧ ∀ k', k' v → F k'
theorem Det.ret {α : Type} (a : α) : Det (fun k => k a) := fun _ h => ⟨a, h, fun _ h => h⟩
theorem Det.no {α : Type} : Det (fun _ : α → Prop => False) := fun _ h => h.elim
theorem Det.and {α : Type} {p : Prop} {F : (α → Prop) → Prop} (d : Det F) : Det (fun k => p ∧ F k) := fun k ⟨hp, h⟩ => let ⟨v, hv, r⟩ := d k h; ⟨v, hv, fun k' h' => ⟨hp, r k' h'⟩⟩
theorem Det.chk {α : Type} {p : Prop} [Decidable p] {F : (α → Prop) → Prop} (d : Det F) : Det (fun k => chk p (F k)) := fun k h => by
  have ⟨hp, h⟩ := Zbo h
  obtain ⟨v, hv, r⟩ := d k h
  exact ⟨v, hv, fun k' h' => by unfold Sim.chk; rw [decide_eq_true hp]; exact r k' h'⟩
theorem Det.bind {α β : Type} {F : (α → Prop) → Prop} {G : α → (β → Prop) → Prop} (d : Det F) (e : ∀ a, Det (G a)) : Det (fun k => F fun a => G a k) := fun k h => by
  obtain ⟨a, ha, r⟩ := d _ h
  obtain ⟨b, hb, q⟩ := e a k ha
  exact ⟨b, hb, fun k' h' => r _ (q k' h')⟩
theorem Det.map {α β : Type} {F : (α → Prop) → Prop} (d : Det F) (f : α → β) : Det (fun k => F fun a => k (f a)) := d.bind fun a => Det.ret (f a)
theorem Det.bcase {α : Type} {b : Bool} {F G : (α → Prop) → Prop} (d : Det F) (e : Det G) : Det (fun k => bcase b (F k) (G k)) := by cases b <;> assumption

section
variable {P : Program}
theorem Yla (s : Sh) (o : Option Zaq) : Det (xv s o) := by
  intro k h
  cases s <;> simp only [xv, Zbr, Zaz, Zhs, xSl, Ymc, Zxl, Zem] at * <;> split at h <;> first
    | exact h.elim
    | exact ⟨_, h, fun _ h => h⟩
    | exact ⟨_, h.2, fun _ h' => ⟨h.1, h'⟩⟩
theorem Yfg (o : Option Zaq) : Det (Zxl o) := Yla .any o
theorem Zve (o : Option (List Zaq)) : Det (Zce o) := fun k h => by
  unfold Zce at *; split at h <;> first | exact ⟨_, h, fun _ h => h⟩ | exact h.elim
theorem Yot : ∀ (ss : List Sh) (cs : List Zaq), Det (xs ss cs)
  | [], cs => fun k h => by
    simp only [xs, Zbl] at *; split at h <;> first | exact ⟨_, h, fun _ h => h⟩ | exact h.elim
  | s :: ss, cs => fun k h => by
    simp only [xs, Zad] at *
    split at h
    · exact ((Yla s _).bind (G := fun v k => xs ss _ fun vs => k (v :: vs)) fun v => (Yot ss _).map (v :: ·)) k h
    · exact h.elim
theorem Yit (t : TypeId) (h : Zaa) (p : Zaq) : Det (Zux P t h p) := by
  intro k hh
  unfold Zux at *
  split at hh
  · exact ((Zve _).bind (G := fun cs k => xs _ cs fun vs => k (.agg vs)) fun cs => (Yot _ cs).map Zaq.agg) k hh
  · exact Yla _ _ k hh
theorem Yix (a b : Option (Nat × Nat)) : Det (Ydi a b) := by
  intro k h
  unfold Ydi at *
  split at h
  · exact ⟨_, h, fun _ h => h⟩
  · split at h
    · exact ⟨_, h, fun _ h => h⟩
    · exact h.elim
theorem Zsu (a : Option (Nat × Nat)) (f : Nat → Nat → Zaq) : Det (fun k : Zaq → Prop => Zbf a fun b o => k (f b o)) := by
  intro k h
  obtain ⟨b, o, rfl, h⟩ := Zcc h
  exact ⟨_, h, fun _ h => h⟩
theorem Ylz (t : TypeId) (x y : Zaq) : Det (eqA P t x y) := by
  intro k h
  unfold eqA at *
  split at h <;> (try exact h.elim) <;> split at h <;> (try exact h.elim)
  · exact (Det.ret _).chk k h
  · exact ⟨_, h, fun _ h => h⟩
  · exact (Det.ret _).chk k h
  · exact (Yix _ _).chk k h
  · split at h
    · exact ⟨_, h, fun _ h => h⟩
    · exact h.elim
  · exact (Det.ret _).and.chk k h
theorem Ynx (op : BinOp) (t : TypeId) (x y : Zaq) : Det (Ymm P op t x y) := by
  intro k h
  unfold Ymm at *
  split at h
  · exact (Ylz t x y).map _ k h
  · exact (Ylz t x y).map _ k h
  · split at h
    · split at h
      · split at h <;> first
          | exact h.elim
          | exact (Det.ret _).chk k h
          | exact (Det.ret _).and.chk k h
          | exact (Det.ret _).and k h
      · exact h.elim
    · split at h
      · split at h <;> first
          | exact h.elim
          | exact (Det.ret _).and k h
          | exact ⟨_, h, fun _ h => h⟩
      · exact h.elim
    · exact h.elim
theorem Ycq (t : TypeId) (cs : List Zaq) (off : Nat) : Det (Zxv P t cs off) := by
  intro k h
  unfold Zxv at *
  split at h
  · exact ⟨_, h, fun _ h => h⟩
  · exact (Yfg _).chk k h
theorem Zoa (o : Option Zaq) (d : Int) : Det (Zld o d) := fun k h => by
  unfold Zld at *; split at h <;> first | exact ⟨_, h, fun _ h => h⟩ | exact h.elim
theorem Ybk (o : Option Field) : Det (Zrm o) := fun k h => by
  unfold Zrm at *; split at h <;> first | exact ⟨_, h, fun _ h => h⟩ | exact h.elim
theorem Yci (s : List Nat) (lo hi : Option Zaq) : Det (Zsf s lo hi) := by
  unfold Zsf
  exact (Zoa hi s.length).bind fun h => (Zoa lo 0).bind fun l => (Det.ret _).and
theorem Ydp (a : Option (Nat × Nat)) (len cap : Nat) (ex : Bool) (sz : Nat) (lo hi mx : Option Zaq) : Det (Zjr a len cap ex sz lo hi mx) := by
  unfold Zjr
  refine (Zoa mx cap).bind fun m => (Zoa hi len).bind fun h => (Zoa lo 0).bind fun l => Det.and ?_
  intro k hk
  split at hk
  · exact (Det.ret _).and k hk
  · rename_i b o
    by_cases hlm : l < m
    · exact ⟨_, hk.1 hlm, fun k' h' => ⟨fun _ => h', fun h => absurd hlm h⟩⟩
    · exact ⟨_, hk.2 hlm, fun k' h' => ⟨fun h => absurd h hlm, fun _ => h'⟩⟩
theorem Yje (env : Env) (o : Oper) : Det (Zpx P env o) := by
  intro k h
  obtain ⟨dst, op, type, pos, after, guard⟩ := o
  unfold Zpx at *
  cases op <;> simp only at h ⊢ <;> (try exact h.elim)
  case move x => exact ⟨_, h, fun _ h => h⟩
  case assign x => exact ⟨_, h, fun _ h => h⟩
  case pick c a b =>
    unfold Yja at *
    split at h
    · exact (Det.ret _).bcase (Det.ret _) k h
    · exact h.elim
  case nilCheck x =>
    unfold Ysp at *
    split at h <;> first | exact h.elim | exact ⟨_, h, fun _ h => h⟩ | exact Zsu _ (fun b o => .ptr (some (b, o))) k h
  case fieldAddr t x i =>
    unfold Zhc at *
    split at h
    · rename_i a _
      exact (Det.bind (F := Zrm (Zxi P t i)) (G := fun (f : Field) (k : Zaq → Prop) => chk ((P.underlying f.type).isSome = true) (chk (P.cellsOf f.type ≠ 0) (Zbf a fun b o => k (Zaq.ptr (some (b, o + f.offset)))))) (Ybk _) fun f => Det.chk (Det.chk (Zsu a fun b o => Zaq.ptr (some (b, o + f.offset))))) k h
    · exact h.elim
  case field t x i =>
    unfold Ybt at *
    split at h
    · exact (Ybk _).bind (G := fun f k => Zxv P f.type _ f.offset k) (fun f => Ycq _ _ _) k h
    · exact h.elim
  case indexAddr t x i =>
    unfold Zns at *
    split at h
    · split at h
      · split at h <;> first | exact h.elim | exact (Zsu _ (fun b o => Zaq.ptr (some (b, o + _)))).and.chk k h
      · split at h <;> first | exact h.elim | exact (Zsu _ (fun b o => Zaq.ptr (some (b, o + _)))).and.chk k h
      · exact h.elim
    · exact h.elim
  case index t x i =>
    unfold Ycb at *
    split at h
    · split at h
      · split at h
        · exact (Det.ret _).and k h
        · exact h.elim
      · split at h
        · exact (Ycq _ _ _).and.chk k h
        · exact h.elim
      · exact h.elim
    · exact h.elim
  case slice t x lo hi mx =>
    unfold Zyf at *
    split at h
    · split at h
      · exact (Yci _ _ _).chk k h
      · exact h.elim
    · split at h
      · exact (Ydp _ _ _ _ _ _ _ _).chk.chk k h
      · exact h.elim
    · exact h.elim
  case binOp op t x y yt => exact Ynx _ _ _ _ k h
  case unOp op t x =>
    unfold unA at *
    split at h
    · split at h <;> first | exact h.elim | exact ⟨_, h, fun _ h => h⟩
    · split at h <;> first | exact h.elim | exact ⟨_, h, fun _ h => h⟩
    · exact h.elim
  case convert s d x =>
    unfold Yem at *
    split at h
    · split at h <;> first | exact h.elim | exact (Det.ret _).chk k h
    · split at h <;> first | exact h.elim | exact (Det.ret _).chk k h | exact (Det.ret _).and.chk k h
    · exact h.elim
  case extract x i =>
    unfold Zsm at *
    split at h
    · exact Yfg _ k h
    · exact h.elim
  case makeFunc fn first caps =>
    cases fn <;> simp only at h ⊢ <;> first | exact h.elim | exact (Det.ret _).chk k h
  case call c =>
    split at h
    · unfold Yqn at *
      split at h <;> first | exact h.elim | exact (Det.ret _).chk k h
    · exact h.elim

def Yaa (P : Program) (op : Op) : Bool :=
  match op with
  | .binOp _ t _ y _ => (match Zsw P t with | false => true | true => Yor y && Zpf P t)
  | .move _ | .assign _ | .pick .. | .unOp .. | .nilCheck _ | .extract .. | .field .. | .fieldAddr .. | .indexAddr .. | .index .. | .slice .. | .makeFunc .. | .build .. => true
  | .call c => (match c.callee with | .builtin .len => true | _ => false)
  | .convert s _ _ => !Yhu P s
  | _ => false
def Yom (op : Op) : Bool := match op with | .load .. => true | _ => false
def Ydm (P : Program) (env : Env) (o : Oper) (k : Zaq → Prop) : Prop :=
  match o.op with
  | .build t ps => Yjn P t (parts env ps) k
  | _ => Zpx P env o k
theorem Yjs (env : Env) (o : Oper) : Det (Ydm P env o) := by
  intro k h
  unfold Ydm at *
  split at h
  · refine (Zve _).bind (G := fun z k => _) (fun z => ?_) k h
    intro k h
    split at h
    · exact ((Zve _).map _).chk k h
    · exact ((Zve _).map _).chk k h
    · exact h.elim
  · exact Yje env o k h
theorem Zwt {env : Env} {h : Zaa} {o : Oper} (hr : Yaa P o.op = true) {K : Zaq → Zaa → Prop} : opA P env h o K ↔ Ydm P env o fun v => K v h := by
  obtain ⟨dst, op, type, pos, after, guard⟩ := o
  cases op <;> simp only [Yaa, Bool.false_eq_true] at hr <;> try (simp only [opA, Ydm]; done)
  case call c =>
    simp only [opA, Ydm, Ylw]
    split at hr
    · rename_i hc; simp [hc]
    · cases hr
  case convert s d x =>
    simp only [Bool.not_eq_true'] at hr
    simp only [opA, Ydm, hr]
  case binOp op t x y yt =>
    simp only [opA, Ydm, Zpx]
    cases hx : ev env x <;> try exact Iff.rfl
    cases hy : ev env y <;> try exact Iff.rfl
    rename_i a b
    have hRT : Zpf P t = true → Zsw P t = true := fun h => by
      obtain ⟨e, j, hu, _⟩ := Zpv h
      unfold Zsw; rw [hu]
    have hno : ∀ (p : Prop) [Decidable p] (q : Prop), ¬ p → (Sim.chk p q ↔ False) := fun p _ q h => ⟨fun hc => h (Zbo hc).1, fun h => h.elim⟩
    have hyes : ∀ (p : Prop) [Decidable p] (q : Prop), p → (Sim.chk p q ↔ q) := fun p _ q h => ⟨fun hc => (Zbo hc).2, fun hq => by unfold Sim.chk; rw [decide_eq_true h]; exact hq⟩
    cases hT : Zsw P t with
    | false =>
      have hR : ¬ Zpf P t = true := fun h => by rw [hRT h] at hT; cases hT
      have hT' : ¬ Zsw P t = true := by rw [hT]; simp
      cases op <;> simp only [Ypf, Ymm, eqA] <;> first | exact Iff.rfl | (rw [hno _ _ hR, hno _ _ hT'])
    | true =>
      rw [hT] at hr
      simp only [Bool.and_eq_true] at hr
      have hb : b = none := by
        have := hr.1
        unfold Yor at this
        split at this
        · simp [ev, cst, Zpm] at hy; exact hy.symm
        · cases this
      subst hb
      cases op <;> simp only [Ypf, Ymm, eqA] <;> first | exact Iff.rfl | (rw [hyes _ _ hr.2, hyes _ _ hT]; exact Iff.rfl)

theorem Zwi {env env' : Env} {ps : Array (Nat × Operand)} (hx : ∀ x ∈ ps.map (·.2), ev env x = ev env' x) : parts env ps = parts env' ps := by
  unfold parts
  refine List.map_congr_left fun p hp => ?_
  rw [hx p.2 (Array.mem_map.2 ⟨p, by simpa using hp, rfl⟩)]
theorem Zym {env env' : Env} {xs : Array Operand} (hx : ∀ x ∈ xs, ev env x = ev env' x) : xs.toList.map (ev env) = xs.toList.map (ev env') :=
  List.map_congr_left fun x hp => hx x (by simpa using hp)
theorem Zxg {env env' : Env} {h : Zaa} {o : Oper} (hx : ∀ x ∈ o.op.operands, ev env x = ev env' x) {K : Zaq → Zaa → Prop} : opA P env h o K ↔ opA P env' h o K := by
  obtain ⟨dst, op, type, pos, after, guard⟩ := o
  cases op <;> simp only [Op.operands] at hx <;> simp only [opA, Zpx]
  case build t ps => rw [Zwi fun x h => hx x (by simpa using h)]
  case buildSlice t n ps => rw [Zwi fun x h => hx x (by simpa using h)]
  case makeFunc fn first caps =>
    have hc := Zym (xs := caps) fun x h => hx x (by simp [h])
    cases fn <;> simp only [hc]
  case call c =>
    simp only [Call.operands] at hx
    have ha : c.args.toList.map (ev env) = c.args.toList.map (ev env') := Zym fun x h => hx x (by simp [h])
    simp only [Ylw, Zpx, ha]
    cases hc : c.callee with
    | value f =>
      have hf : ev env f = ev env' f := hx f (by simp [hc])
      cases f <;> simp only [hf]
    | invoke r m => exact Iff.rfl
    | builtin b => cases b <;> exact Iff.rfl
  case slice t x lo hi mx =>
    cases lo <;> cases hi <;> cases mx <;> simp_all
  case makeMap t r => cases r <;> simp_all
  all_goals (first | rfl | (simp_all; done))
end
end Go.Sim

set_option linter.unusedSimpArgs false
namespace Go.Sim
open Go Go.RowKit

structure Zye where
  i : Nat
  p : Zaq
  n : Option Nat
def Zye.ok (d : Zye) (h h' : Zaa) : Prop := match d.n with | none => Zae h' d.p = Zae h d.p | some n => Zaw h' d.p n = Zaw h d.p n
theorem Zye.ok_refl (d : Zye) (h : Zaa) : d.ok h h := by unfold Zye.ok; split <;> rfl
def Zpn (ops : Array Oper) (j i : Nat) : Bool := match ops[j]? with | some o => o.after.any (fun e => Region.binds .any e && e.on == i) | none => false
def Ycx (ops : Array Oper) (j : Nat) : List Zye → Zaa → Zaa → Prop → Prop
  | [], _, _, K => K
  | d :: r, h, h', K => (match Zpn ops j d.i with | true => Ycx ops j r h h' K | false => d.ok h h' ∧ Ycx ops j r h h' K)
theorem Zoy {ops : Array Oper} {j : Nat} : ∀ {hs : List Zye} {h h' : Zaa} {K : Prop}, Ycx ops j hs h h' K → (∀ d ∈ hs, Zpn ops j d.i = true ∨ d.ok h h') ∧ K
  | [], _, _, _, hk => ⟨by simp, hk⟩
  | d :: r, h, h', K, hk => by
    unfold Ycx at hk
    split at hk
    · rename_i hw
      obtain ⟨a, b⟩ := Zoy hk
      exact ⟨fun x hx => by rcases List.mem_cons.1 hx with rfl | hx; exact .inl hw; exact a x hx, b⟩
    · obtain ⟨ho, hk⟩ := hk
      obtain ⟨a, b⟩ := Zoy hk
      exact ⟨fun x hx => by rcases List.mem_cons.1 hx with rfl | hx; exact .inr ho; exact a x hx, b⟩

def Zuz (P : Program) (N : Nat) (ops : Array Oper) (i : Nat) (env : Env) (h : Zaa) (K : Env → Zaa → Prop) : Prop :=
  match ops[i]? with | some o => Zms P N ops env h o K | none => K env h
def Zpd (P : Program) (ops : Array Oper) (i : Nat) (env : Env) : Zye :=
  match ops[i]? with
  | some o => (match o.op with
    | .load t a => (match isAgg P t with | true => ⟨i, ev env a, some (P.cellsOf t)⟩ | false => ⟨i, ev env a, none⟩)
    | _ => ⟨i, .undef, none⟩)
  | none => ⟨i, .undef, none⟩
def Yrd (ops : Array Oper) (f : Op → Bool) (i : Nat) : Bool := match ops[i]? with | some o => f o.op | none => false
def Ysx (f : Nat → Prop) : List Nat → Prop
  | [] => True
  | [i] => f i
  | i :: r => f i ∧ Ysx f r
theorem Ybc {f : Nat → Prop} : ∀ {l : List Nat}, Ysx f l → ∀ i ∈ l, f i
  | [], _, i, hi => by simp at hi
  | [j], h, i, hi => by simp at hi; subst hi; exact h
  | j :: k :: r, h, i, hi => by
    rcases List.mem_cons.1 hi with rfl | hi
    · exact h.1
    · exact Ybc h.2 i hi
def Yev (P : Program) (N : Nat) (ops : Array Oper) (ks : List Nat) (K : Env → Zaa → Prop) : Nat → Array Bool → List Zye → Env → Zaa → Prop
  | 0, listed, _, env, h => (match Region.ready .any ops listed with | [] => K (env.keep ks) h | _ => False)
  | f + 1, listed, hs, env, h =>
    (match Region.ready .any ops listed with
    | [] => K (env.keep ks) h
    | rs => (match rs.find? (fun i => Yrd ops (Yaa P) i && Region.free .any ops listed i) with
      | some i => Zuz P N ops i env h fun env' h' => Yev P N ops ks K f (listed.setIfInBounds i true) hs env' h'
      | none => (match (match rs with | [_] => none | _ => rs.find? (fun i => Yrd ops Yom i && Region.free .any ops listed i)) with
        | some i => Zuz P N ops i env h fun env' h' => Yev P N ops ks K f (listed.setIfInBounds i true) (Zpd P ops i env :: hs) env' h'
        | none => Ysx (fun i => Zuz P N ops i env h fun env' h' => Ycx ops i hs h h' (Yev P N ops ks K f (listed.setIfInBounds i true) hs env' h')) rs)))

def Yoc (P : Program) (N : Nat) (ops : Array Oper) (K : Env → Zaa → Prop) (hs : List Zye) : Nat → Array Bool → Env → Zaa → Prop
  | 0, listed, env, h => Region.ready .any ops listed = [] ∧ K env h
  | f + 1, listed, env, h => (Region.ready .any ops listed = [] → K env h) ∧
    ∀ i ∈ Region.ready .any ops listed, Zuz P N ops i env h fun env' h' => (∀ d ∈ hs, Zpn ops i d.i = true ∨ d.ok h h') ∧ Yoc P N ops K hs f (listed.setIfInBounds i true) env' h'

def Yeh (env env' : Env) : Prop := ∀ t, env.get t = env'.get t
def Ztx (o : Oper) (env : Env) (v : Zaq) (env1 : Env) : Prop := ∀ t, env1.get t = if o.dst = some t then v else env.get t

section
variable {P : Program} {N : Nat} {ops : Array Oper}

theorem Yea {env env' : Env} {d : Option Tmp} {v : Zaq} {K K' : Env → Prop} (hk : Zrj N env d v K)
    (hK : ∀ env1 env1', (∀ t, env1.get t = if d = some t then v else env.get t) → (∀ t, env1'.get t = if d = some t then v else env'.get t) → K env1 → K' env1') : Zrj N env' d v K' := by
  unfold Zrj at *
  cases d with
  | none => exact hK env env' (by simp) (by simp) hk
  | some d =>
    refine Zch hk fun hk => hK _ _ ?_ ?_ hk
    · intro t; rw [Env.get_set]; by_cases e : t = d <;> simp [e, eq_comm]; exact fun q => absurd q.symm e
    · intro t; rw [Env.get_set]; by_cases e : t = d <;> simp [e, eq_comm]; exact fun q => absurd q.symm e

theorem Zoz {env env' : Env} {o : Oper} (hl : ∀ t ∈ o.looksAt ops, env.get t = env'.get t) : ∀ x ∈ o.op.operands, ev env x = ev env' x := fun x hx => by
  cases x with
  | tmp t => exact hl t (List.mem_append_left _ (List.mem_filterMap.2 ⟨.tmp t, by simpa using hx, rfl⟩))
  | _ => rfl
theorem Zgr {env : Env} {t : Nat} {v : Zaq} (h : env.get t = v) (s : Nat) : (env.set t v).get s = env.get s := by
  rw [Env.get_set]; split
  · rename_i e; subst e; exact h.symm
  · rfl
theorem Yqm {env env' : Env} {h h2 : Zaa} {o : Oper} {K K' : Env → Zaa → Prop} (hs : Zms P N ops env h o K) (hl : ∀ t ∈ o.looksAt ops, env.get t = env'.get t)
    (hop : ∀ (e1 e2 : Env), (∀ x ∈ o.op.operands, ev e1 x = ev e2 x) → (∀ t, e1.get t = env.get t) → ∀ (A B : Zaq → Zaa → Prop), opA P e1 h o A → (∀ v h', A v h' → B v h') → opA P e2 h2 o B)
    (hun : ∀ e1 e2, Yeh e1 env → Yeh e2 env' → Zrj N e1 o.dst (.tup []) (fun x => K x h) → Zrj N e2 o.dst (.tup []) (fun x => K' x h2))
    (hK : ∀ v h' env1 env1', Ztx o env v env1 → Ztx o env' v env1' → K env1 h' → K' env1' h') : Zms P N ops env' h2 o K' := by
  unfold Zms at *
  cases hg : o.guard with
  | none =>
    simp only [hg] at hs ⊢
    exact hop env env' (Zoz hl) (fun _ => rfl) _ _ hs fun v h' hp => Yea hp fun e1 e2 a b k => hK v h' e1 e2 a b k
  | some g =>
    obtain ⟨j, want⟩ := g
    simp only [hg] at hs ⊢
    cases ht : (ops[j]?).bind (·.dst) with
    | none => simp only [ht] at hs
    | some t =>
      simp only [ht] at hs ⊢
      have htl : env.get t = env'.get t := hl t (List.mem_append_right _ (by simp [hg, ht]))
      rw [← htl]
      split at hs
      · rename_i b hb
        have key : ∀ c, b = c → (opA P (env.set t (.bool c)) h o (fun v h' => Zrj N (env.set t (.bool c)) o.dst v fun env' => K env' h') → opA P (env'.set t (.bool c)) h2 o (fun v h' => Zrj N (env'.set t (.bool c)) o.dst v fun env' => K' env' h')) ∧
            (Zrj N (env.set t (.bool c)) o.dst (.tup []) (fun env' => K env' h) → Zrj N (env'.set t (.bool c)) o.dst (.tup []) (fun env' => K' env' h2)) := by
          intro c e
          subst e
          have k1 := Zgr hb
          have k2 := Zgr (htl ▸ hb : env'.get t = .bool b)
          constructor
          · intro ho
            refine hop _ _ (Zoz fun s hs => by rw [k1, k2]; exact hl s hs) k1 _ _ ho fun v h' hp => Yea hp fun e1 e2 a b k => hK v h' e1 e2 ?_ ?_ k
            · intro s; rw [a s, k1]
            · intro s; rw [b s, k2]
          · exact hun _ _ k1 k2
        cases b
        · obtain ⟨k1, k2⟩ := key false rfl
          cases want
          · exact k1 hs
          · exact k2 hs
        · obtain ⟨k1, k2⟩ := key true rfl
          cases want
          · exact k2 hs
          · exact k1 hs
      · exact hun env env' (fun _ => rfl) (fun _ => rfl) hs
      · exact hs.elim

theorem Zvl {env env' : Env} {h : Zaa} {o : Oper} {K K' : Env → Zaa → Prop} (hs : Zms P N ops env h o K) (hl : ∀ t ∈ o.looksAt ops, env.get t = env'.get t)
    (hK : ∀ v h' env1 env1', Ztx o env v env1 → Ztx o env' v env1' → K env1 h' → K' env1' h') : Zms P N ops env' h o K' :=
  Yqm hs hl (fun e1 e2 hx _ A B ha hm => Yoi ((Zxg hx).1 ha) hm)
    (fun e1 e2 q1 q2 hp => Yea hp fun f1 f2 a b k => hK _ _ f1 f2 (fun t => by rw [a t, q1 t]) (fun t => by rw [b t, q2 t]) k) hK

def Yd (P : Program) (N : Nat) (ops : Array Oper) (o : Oper) (v : Zaq) (env : Env) (h : Zaa) : Prop :=
  ∀ K : Env → Zaa → Prop, (∀ env1, Ztx o env v env1 → K env1 h) → Zms P N ops env h o K

theorem Zss {K : Env → Zaa → Prop} {hs hs' : List Zye} (hsub : ∀ d ∈ hs, d ∈ hs') : ∀ (f : Nat) {listed : Array Bool} {env env' : Env} {h : Zaa}, (∀ e e' h, Yeh e e' → K e h → K e' h) → Yeh env env' →
    Yoc P N ops K hs' f listed env h → Yoc P N ops K hs f listed env' h
  | 0, _, _, _, _, hK, he, hh => ⟨hh.1, hK _ _ _ he hh.2⟩
  | f + 1, listed, env, env', h, hK, he, hh => by
    refine ⟨fun hr => hK _ _ _ he (hh.1 hr), fun i hi => ?_⟩
    have := hh.2 i hi
    unfold Zuz at *
    cases ho : ops[i]? with
    | none =>
      rw [ho] at this
      exact ⟨fun d hd => this.1 d (hsub d hd), Zss hsub f hK he this.2⟩
    | some o =>
      rw [ho] at this
      refine Zvl this (fun t _ => he t) fun v h' e1 e2 a b k => ⟨fun d hd => k.1 d (hsub d hd), Zss hsub f hK (fun t => ?_) k.2⟩
      rw [a t, b t, he t]

theorem Zya {K : Env → Zaa → Prop} {hs hs' : List Zye} (hK : ∀ e e' h, Yeh e e' → K e h → K e' h) (hsub : ∀ d ∈ hs, d ∈ hs') {i : Nat} {oi : Oper} {v : Zaq} (hi : ops[i]? = some oi) {T : Zaa → Zaa → Prop}
    (hT : ∀ j h h1, Zpn ops j i = false → (∀ d ∈ hs', Zpn ops j d.i = true ∨ d.ok h h1) → T h h1)
    {Y : Env → Zaa → Prop} (hY : ∀ env h, Y env h → Yd P N ops oi v env h)
    (hst : ∀ env h env1 h1, Y env h → (∀ t ∈ oi.looksAt ops, env.get t = env1.get t) → T h h1 → Y env1 h1) :
    ∀ (fuel : Nat) (listed : Array Bool) (env env1 : Env) (h : Zaa),
      (∀ j oj, ops[j]? = some oj → j ≠ i → listed.getD j true = false → (∀ e ∈ oj.after, Region.binds .any e = true → e.on ≠ i) → oi.apart ops oj = true) →
      i ∈ Region.ready .any ops listed → Y env h → Ztx oi env v env1 →
      Yoc P N ops K hs' fuel (listed.setIfInBounds i true) env1 h → Yoc P N ops K hs (fuel + 1) listed env h := by
  intro fuel
  have now : ∀ (fuel : Nat) (listed : Array Bool) (env env1 : Env) (h : Zaa), Y env h → Ztx oi env v env1 → Yoc P N ops K hs' fuel (listed.setIfInBounds i true) env1 h →
      Zuz P N ops i env h fun env' h' => (∀ d ∈ hs, Zpn ops i d.i = true ∨ d.ok h h') ∧ Yoc P N ops K hs fuel (listed.setIfInBounds i true) env' h' := by
    intro fuel listed env env1 h hy ha H
    unfold Zuz
    rw [hi]
    exact hY _ _ hy _ fun env2 h2 => ⟨fun d _ => .inr (d.ok_refl h), Zss hsub fuel hK (fun t => by rw [ha t, h2 t]) H⟩
  induction fuel with
  | zero =>
    intro listed env env1 h _ hr hy ha H
    refine ⟨fun e => (by rw [e] at hr; cases hr), fun j hj => ?_⟩
    by_cases hji : j = i
    · subst hji; exact now 0 listed env env1 h hy ha H
    · have := ready_mono hj hji
      rw [H.1] at this
      cases this
  | succ fuel ih =>
    intro listed env env1 h hfree hr hy ha H
    refine ⟨fun e => (by rw [e] at hr; cases hr), fun j hj => ?_⟩
    by_cases hji : j = i
    · subst hji; exact now (fuel + 1) listed env env1 h hy ha H
    · have h1 := H.2 j (ready_mono hj hji)
      obtain ⟨hjun, oj, hoj, hall⟩ := mem_ready.1 hj
      have hnot : ∀ e ∈ oj.after, Region.binds .any e = true → e.on ≠ i := fun e he hb heq => by
        have h1 := hall e he hb
        have h0 := (mem_ready.1 hr).1
        rw [heq] at h1
        rcases Nat.lt_or_ge i listed.size with h' | h'
        · simp [h'] at h0 h1; rw [h0] at h1; cases h1
        · simp [Array.getElem?_eq_none h'] at h1
      have hw : Zpn ops j i = false := by
        unfold Zpn
        rw [hoj]
        simp only [Array.any_eq_false]
        intro q hq
        simp only [Bool.and_eq_true, beq_iff_eq, not_and]
        intro hb
        exact hnot _ (Array.getElem_mem hq) hb
      obtain ⟨a1, a2, a3⟩ := Oper.apart_spec (hfree j oj hoj hji hjun hnot)
      unfold Zuz at h1 ⊢
      rw [hoj] at h1 ⊢
      refine Zvl h1 (fun t ht => ?_) fun u h' e1 e2 q1 q2 k => ?_
      · rw [ha t, if_neg (fun e => a1 t e ht)]
      · refine ⟨fun d hd => k.1 d (hsub d hd), ih (listed.setIfInBounds j true) e2 e1 h' ?_ (ready_mono hr (Ne.symm hji)) ?_ ?_ ?_⟩
        · intro k ok hk hki hun hno
          refine hfree k ok hk hki ?_ hno
          by_cases hjk : j = k
          · subst hjk; exact hjun
          · rw [getD_set_ne true hjk] at hun; exact hun
        · refine hst env h e2 h' hy (fun t ht => ?_) (hT j h h' hw k.1)
          rw [q2 t, if_neg (fun e => a3 t e ht)]
        · intro t
          rw [q1 t, q2 t, ha t]
          by_cases x : oj.dst = some t <;> by_cases y : oi.dst = some t <;> simp [x, y]
          exact absurd x (a2 t y)
        · rw [Array.setIfInBounds_comm _ _ hji]
          exact k.2
end
end Go.Sim

set_option linter.unusedSimpArgs false
namespace Go.Sim
open Go Go.RowKit

section
variable {P : Program} {N : Nat} {ops : Array Oper}

theorem Yiv {o : Oper} (hr : Yaa P o.op = true) {env : Env} {h : Zaa} {K : Env → Zaa → Prop} (hs : Zms P N ops env h o K) :
    ∃ v, (∃ env1, Ztx o env v env1 ∧ K env1 h) ∧ ∀ env' h', (∀ t ∈ o.looksAt ops, env.get t = env'.get t) → Yd P N ops o v env' h' := by
  have core : ∀ (e : Env) (A : Zaq → Zaa → Prop), opA P e h o A → ∃ v, A v h ∧ ∀ (e2 : Env) (h2 : Zaa) (B : Zaq → Zaa → Prop), (∀ x ∈ o.op.operands, ev e x = ev e2 x) → B v h2 → opA P e2 h2 o B := by
    intro e A ha
    obtain ⟨v, hv, r⟩ := Yjs e o _ ((Zwt hr).1 ha)
    exact ⟨v, hv, fun e2 h2 B hx hb => (Zxg hx).1 ((Zwt hr).2 (r (fun v => B v h2) hb))⟩
  have put : ∀ {e : Env} {v : Zaq} {K : Env → Prop}, Zrj N e o.dst v K → (∃ e1, (∀ t, e1.get t = if o.dst = some t then v else e.get t) ∧ K e1) ∧ ∀ (e2 : Env) (K2 : Env → Prop), (∀ e3, (∀ t, e3.get t = if o.dst = some t then v else e2.get t) → K2 e3) → Zrj N e2 o.dst v K2 := by
    intro e v K hp
    unfold Zrj at *
    cases hd : o.dst with
    | none => simp only [hd] at hp ⊢; exact ⟨⟨e, by simp, hp⟩, fun e2 K2 h => h e2 (by simp)⟩
    | some d =>
      simp only [hd] at hp ⊢
      have hc := Zbo hp
      refine ⟨⟨_, ?_, hc.2⟩, fun e2 K2 h => ?_⟩
      · intro t; rw [Env.get_set]; by_cases q : t = d
        · subst q; simp
        · rw [if_neg q, if_neg (by simp; exact fun x => q x.symm)]
      · unfold chk; rw [decide_eq_true hc.1]
        refine h _ fun t => ?_
        rw [Env.get_set]; by_cases q : t = d
        · subst q; simp
        · rw [if_neg q, if_neg (by simp; exact fun x => q x.symm)]
  unfold Zms at hs
  cases hg : o.guard with
  | none =>
    simp only [hg] at hs
    obtain ⟨v, hv, r⟩ := core env _ hs
    obtain ⟨⟨e1, h1, k1⟩, q⟩ := put hv
    refine ⟨v, ⟨e1, h1, k1⟩, fun env' h' hl K hK => ?_⟩
    unfold Zms
    simp only [hg]
    exact r env' h' _ (Zoz hl) (q env' _ fun e3 a => hK e3 a)
  | some g =>
    obtain ⟨j, want⟩ := g
    simp only [hg] at hs
    cases ht : (ops[j]?).bind (·.dst) with
    | none => simp only [ht] at hs
    | some t =>
      simp only [ht] at hs
      split at hs
      · rename_i b hb
        have htl : ∀ env' : Env, (∀ t ∈ o.looksAt ops, env.get t = env'.get t) → env'.get t = .bool b := fun env' hl => by
          rw [← hl t (List.mem_append_right _ (by simp [hg, ht]))]; exact hb
        have go : ∀ c, b = c → opA P (env.set t (.bool c)) h o (fun v h' => Zrj N (env.set t (.bool c)) o.dst v fun env' => K env' h') → want = c →
            ∃ v, (∃ env1, Ztx o env v env1 ∧ K env1 h) ∧ ∀ env' h', (∀ t ∈ o.looksAt ops, env.get t = env'.get t) → Yd P N ops o v env' h' := by
          intro c e ho hw
          subst e; subst hw
          obtain ⟨v, hv, r⟩ := core _ _ ho
          obtain ⟨⟨e1, h1, k1⟩, q⟩ := put hv
          refine ⟨v, ⟨e1, fun s => by rw [h1 s, Zgr hb], k1⟩, fun env' h' hl K hK => ?_⟩
          have hb' := htl env' hl
          unfold Zms
          simp only [hg, ht, hb']
          have body : opA P (env'.set t (.bool want)) h' o fun v h'_1 => Zrj N (env'.set t (.bool want)) o.dst v fun env' => K env' h'_1 :=
            r _ h' _ (Zoz fun s hs => by rw [Zgr hb, Zgr hb']; exact hl s hs) (q _ _ fun e3 a => hK e3 fun s => by rw [a s, Zgr hb'])
          cases want <;> exact body
        have skip : ∀ c, b = c → Zrj N (env.set t (.bool c)) o.dst (.tup []) (fun env' => K env' h) → want ≠ c →
            ∃ v, (∃ env1, Ztx o env v env1 ∧ K env1 h) ∧ ∀ env' h', (∀ t ∈ o.looksAt ops, env.get t = env'.get t) → Yd P N ops o v env' h' := by
          intro c e ho hw
          subst e
          obtain ⟨⟨e1, h1, k1⟩, q⟩ := put ho
          refine ⟨.tup [], ⟨e1, fun s => by rw [h1 s, Zgr hb], k1⟩, fun env' h' hl K hK => ?_⟩
          have hb' := htl env' hl
          unfold Zms
          simp only [hg, ht, hb']
          have body : Zrj N (env'.set t (.bool b)) o.dst (.tup []) fun env' => K env' h' := q _ _ fun e3 a => hK e3 fun s => by rw [a s, Zgr hb']
          cases b <;> cases want <;> first | exact body | exact absurd rfl hw
        cases b
        · cases want
          · exact go false rfl hs rfl
          · exact skip false rfl hs (by simp)
        · cases want
          · exact skip true rfl hs (by simp)
          · exact go true rfl hs rfl
      · rename_i hb
        obtain ⟨⟨e1, h1, k1⟩, q⟩ := put hs
        refine ⟨.tup [], ⟨e1, h1, k1⟩, fun env' h' hl K hK => ?_⟩
        have hb' : env'.get t = .tup [] := by rw [← hl t (List.mem_append_right _ (by simp [hg, ht]))]; exact hb
        unfold Zms
        simp only [hg, ht, hb']
        exact q _ _ fun e3 a => hK e3 a
      · exact hs.elim

theorem Yhb {t : TypeId} {h h' : Zaa} {p : Zaq} {k : Zaq → Prop} (hc : (match isAgg P t with | true => Zaw h' p (P.cellsOf t) = Zaw h p (P.cellsOf t) | false => Zae h' p = Zae h p)) (hk : Zux P t h p k) : Zux P t h' p k := by
  unfold Zux at *
  cases ha : isAgg P t with
  | true => simp only [ha] at hc hk ⊢; rw [hc]; exact hk
  | false => simp only [ha] at hc hk ⊢; rw [hc]; exact hk

theorem Ymh {i : Nat} {o : Oper} (hi : ops[i]? = some o) (hr : Yom o.op = true) {env : Env} {h : Zaa} {K : Env → Zaa → Prop} (hs : Zms P N ops env h o K) :
    ∃ v, (∃ env1, Ztx o env v env1 ∧ K env1 h) ∧ ∀ env' h', (∀ t ∈ o.looksAt ops, env.get t = env'.get t) → (Zpd P ops i env).ok h h' → Yd P N ops o v env' h' := by
  obtain ⟨t, a, hop⟩ : ∃ t a, o.op = .load t a := by
    cases hq : o.op <;> simp [hq, Yom] at hr
    exact ⟨_, _, rfl⟩
  have hold : ∀ h', (Zpd P ops i env).ok h h' → (match isAgg P t with | true => Zaw h' (ev env a) (P.cellsOf t) = Zaw h (ev env a) (P.cellsOf t) | false => Zae h' (ev env a) = Zae h (ev env a)) := by
    intro h' hh
    unfold Zpd Zye.ok at hh
    rw [hi] at hh
    simp only [hop] at hh
    cases ha : isAgg P t <;> simp only [ha] at hh ⊢ <;> exact hh
  have core : ∀ (e : Env) (A : Zaq → Zaa → Prop), (∀ x ∈ o.op.operands, ev env x = ev e x) → opA P e h o A → ∃ v, A v h ∧ ∀ (e2 : Env) (h2 : Zaa) (B : Zaq → Zaa → Prop), (∀ x ∈ o.op.operands, ev e x = ev e2 x) → (Zpd P ops i env).ok h h2 → B v h2 → opA P e2 h2 o B := by
    intro e A hx0 ha
    have hxa : ev env a = ev e a := hx0 a (by simp [hop, Op.operands])
    unfold opA at ha
    simp only [hop] at ha
    have hc := Zbo ha
    obtain ⟨v, hv, r⟩ := Yit t h (ev e a) _ hc.2
    refine ⟨v, hv, fun e2 h2 B hx hh hb => (Zxg hx).1 ?_⟩
    unfold opA
    simp only [hop]
    unfold chk; rw [decide_eq_true hc.1]
    have := hold h2 hh
    rw [hxa] at this
    exact Yhb this (r (fun v => B v h2) hb)
  have put : ∀ {e : Env} {v : Zaq} {K : Env → Prop}, Zrj N e o.dst v K → (∃ e1, (∀ t, e1.get t = if o.dst = some t then v else e.get t) ∧ K e1) ∧ ∀ (e2 : Env) (K2 : Env → Prop), (∀ e3, (∀ t, e3.get t = if o.dst = some t then v else e2.get t) → K2 e3) → Zrj N e2 o.dst v K2 := by
    intro e v K hp
    unfold Zrj at *
    cases hd : o.dst with
    | none => simp only [hd] at hp ⊢; exact ⟨⟨e, by simp, hp⟩, fun e2 K2 h => h e2 (by simp)⟩
    | some d =>
      simp only [hd] at hp ⊢
      have hc := Zbo hp
      refine ⟨⟨_, ?_, hc.2⟩, fun e2 K2 h => ?_⟩
      · intro t; rw [Env.get_set]; by_cases q : t = d
        · subst q; simp
        · rw [if_neg q, if_neg (by simp; exact fun x => q x.symm)]
      · unfold chk; rw [decide_eq_true hc.1]
        refine h _ fun t => ?_
        rw [Env.get_set]; by_cases q : t = d
        · subst q; simp
        · rw [if_neg q, if_neg (by simp; exact fun x => q x.symm)]
  unfold Zms at hs
  cases hg : o.guard with
  | none =>
    simp only [hg] at hs
    obtain ⟨v, hv, r⟩ := core env _ (fun _ _ => rfl) hs
    obtain ⟨⟨e1, h1, k1⟩, q⟩ := put hv
    refine ⟨v, ⟨e1, h1, k1⟩, fun env' h' hl hh K hK => ?_⟩
    unfold Zms
    simp only [hg]
    exact r env' h' _ (Zoz hl) hh (q env' _ fun e3 a => hK e3 a)
  | some g =>
    obtain ⟨j, want⟩ := g
    simp only [hg] at hs
    cases ht : (ops[j]?).bind (·.dst) with
    | none => simp only [ht] at hs
    | some t =>
      simp only [ht] at hs
      split at hs
      · rename_i b hb
        have htl : ∀ env' : Env, (∀ t ∈ o.looksAt ops, env.get t = env'.get t) → env'.get t = .bool b := fun env' hl => by
          rw [← hl t (List.mem_append_right _ (by simp [hg, ht]))]; exact hb
        have go : ∀ c, b = c → opA P (env.set t (.bool c)) h o (fun v h' => Zrj N (env.set t (.bool c)) o.dst v fun env' => K env' h') → want = c →
            ∃ v, (∃ env1, Ztx o env v env1 ∧ K env1 h) ∧ ∀ env' h', (∀ t ∈ o.looksAt ops, env.get t = env'.get t) → (Zpd P ops i env).ok h h' → Yd P N ops o v env' h' := by
          intro c e ho hw
          subst e; subst hw
          obtain ⟨v, hv, r⟩ := core _ _ (Zoz (ops := ops) fun s _ => by rw [Zgr hb]) ho
          obtain ⟨⟨e1, h1, k1⟩, q⟩ := put hv
          refine ⟨v, ⟨e1, fun s => by rw [h1 s, Zgr hb], k1⟩, fun env' h' hl hh K hK => ?_⟩
          have hb' := htl env' hl
          unfold Zms
          simp only [hg, ht, hb']
          have body : opA P (env'.set t (.bool want)) h' o fun v h'_1 => Zrj N (env'.set t (.bool want)) o.dst v fun env' => K env' h'_1 :=
            r _ h' _ (Zoz fun s hs => by rw [Zgr hb, Zgr hb']; exact hl s hs) hh (q _ _ fun e3 a => hK e3 fun s => by rw [a s, Zgr hb'])
          cases want <;> exact body
        have skip : ∀ c, b = c → Zrj N (env.set t (.bool c)) o.dst (.tup []) (fun env' => K env' h) → want ≠ c →
            ∃ v, (∃ env1, Ztx o env v env1 ∧ K env1 h) ∧ ∀ env' h', (∀ t ∈ o.looksAt ops, env.get t = env'.get t) → (Zpd P ops i env).ok h h' → Yd P N ops o v env' h' := by
          intro c e ho hw
          subst e
          obtain ⟨⟨e1, h1, k1⟩, q⟩ := put ho
          refine ⟨.tup [], ⟨e1, fun s => by rw [h1 s, Zgr hb], k1⟩, fun env' h' hl _ K hK => ?_⟩
          have hb' := htl env' hl
          unfold Zms
          simp only [hg, ht, hb']
          have body : Zrj N (env'.set t (.bool b)) o.dst (.tup []) fun env' => K env' h' := q _ _ fun e3 a => hK e3 fun s => by rw [a s, Zgr hb']
          cases b <;> cases want <;> first | exact body | exact absurd rfl hw
        cases b
        · cases want
          · exact go false rfl hs rfl
          · exact skip false rfl hs (by simp)
        · cases want
          · exact skip true rfl hs (by simp)
          · exact go true rfl hs rfl
      · rename_i hb
        obtain ⟨⟨e1, h1, k1⟩, q⟩ := put hs
        refine ⟨.tup [], ⟨e1, h1, k1⟩, fun env' h' hl _ K hK => ?_⟩
        have hb' : env'.get t = .tup [] := by rw [← hl t (List.mem_append_right _ (by simp [hg, ht]))]; exact hb
        unfold Zms
        simp only [hg, ht, hb']
        exact q _ _ fun e3 a => hK e3 a
      · exact hs.elim

theorem Yng {env env' : Env} (h : Yeh env env') (ks : List Nat) : env.keep ks = env'.keep ks := List.map_congr_left fun t _ => by rw [h t]
theorem Zye.ok_trans {d : Zye} {a b c : Zaa} (h : d.ok a b) (k : d.ok b c) : d.ok a c := by
  unfold Zye.ok at *; split at h <;> simp_all

theorem Zsp {ks : List Nat} {K : Env → Zaa → Prop} : ∀ (f : Nat) (listed : Array Bool) (hs : List Zye) (env : Env) (h : Zaa), Yev P N ops ks K f listed hs env h →
    Yoc P N ops (fun env h => K (env.keep ks) h) hs f listed env h
  | 0, listed, hs, env, h, hd => by
    unfold Yev at hd
    split at hd
    · rename_i hr; exact ⟨hr, hd⟩
    · exact hd.elim
  | f + 1, listed, hs, env, h, hd => by
    have hK : ∀ e e' h, Yeh e e' → K (e.keep ks) h → K (e'.keep ks) h := fun e e' h he hk => by rw [← Yng he]; exact hk
    unfold Yev at hd
    split at hd
    · rename_i hr; exact ⟨fun _ => hd, by rw [hr]; simp⟩
    · rename_i hne
      split at hd
      · rename_i i hi
        have hmem := List.mem_of_find?_eq_some hi
        have hp := List.find?_some hi
        simp only [Bool.and_eq_true] at hp
        obtain ⟨hp1, hp2⟩ := hp
        unfold Yrd at hp1
        split at hp1
        · rename_i o ho
          unfold Zuz at hd
          rw [ho] at hd
          obtain ⟨v, ⟨env1, ha, hk⟩, hy⟩ := Yiv hp1 hd
          exact Zya (T := fun _ _ => True) (Y := fun e _ => ∀ t ∈ o.looksAt ops, env.get t = e.get t) hK (hs' := hs) (fun d hd => hd) ho (fun _ _ _ _ _ => trivial) (fun e h' he => hy e h' he)
            (fun e1 _ e2 _ y hl _ t ht => (y t ht).trans (hl t ht)) f listed env env1 h (Region.free_spec ho hp2) hmem (fun _ _ => rfl) ha (Zsp f _ _ _ _ hk)
        · cases hp1
      · split at hd
        · rename_i i hi
          have hi' : (Region.ready .any ops listed).find? (fun i => Yrd ops Yom i && Region.free .any ops listed i) = some i := by
            split at hi
            · cases hi
            · exact hi
          have hmem := List.mem_of_find?_eq_some hi'
          have hp := List.find?_some hi'
          simp only [Bool.and_eq_true] at hp
          obtain ⟨hp1, hp2⟩ := hp
          unfold Yrd at hp1
          split at hp1
          · rename_i o ho
            unfold Zuz at hd
            rw [ho] at hd
            obtain ⟨v, ⟨env1, ha, hk⟩, hy⟩ := Ymh ho hp1 hd
            have hid : (Zpd P ops i env).i = i := by unfold Zpd; split <;> (try split) <;> (try split) <;> rfl
            exact Zya (T := fun a b => (Zpd P ops i env).ok a b) (Y := fun e h' => (∀ t ∈ o.looksAt ops, env.get t = e.get t) ∧ (Zpd P ops i env).ok h h') hK (hs' := Zpd P ops i env :: hs) (fun d hd => List.mem_cons_of_mem _ hd) ho
              (fun j a b hw hall => by
                have := hall _ (List.mem_cons_self ..)
                rw [hid, hw] at this
                exact this.resolve_left (by simp)) (fun e h' he => hy e h' he.1 he.2)
              (fun e1 _ e2 _ y hl ht => ⟨fun t htt => (y.1 t htt).trans (hl t htt), Zye.ok_trans y.2 ht⟩) f listed env env1 h (Region.free_spec ho hp2) hmem ⟨fun _ _ => rfl, Zye.ok_refl _ _⟩ ha (Zsp f _ _ _ _ hk)
          · cases hp1
        · refine ⟨fun hr => absurd hr hne, fun i hi => ?_⟩
          have := Ybc hd i hi
          unfold Zuz at this ⊢
          cases ho : ops[i]? with
          | none =>
            rw [ho] at this
            obtain ⟨a, b⟩ := Zoy this
            exact ⟨a, Zsp f _ _ _ _ b⟩
          | some o =>
            rw [ho] at this
            refine Zvl this (fun _ _ => rfl) fun v h' e1 e2 q1 q2 k => ?_
            obtain ⟨a, b⟩ := Zoy k
            exact ⟨a, Zss (fun d hd => hd) f hK (fun t => by rw [q1 t, q2 t]) (Zsp f _ _ _ _ b)⟩
end
end Go.Sim

set_option linter.unusedSimpArgs false
namespace Go.Sim
open Go Go.RowKit

def Zlt : Code → Nat
  | .region id _ _ => id
  | .seq a _ => Zlt a
  | .block _ c => Zlt c
  | .loop c => Zlt c
  | .scope c => Zlt c
  | _ => 0
abbrev Zcf := List (Nat × List Nat)
def Zcf.find : Zcf → Nat → Option (List Nat)
  | [], _ => none
  | (i, ks) :: r, n => match Nat.beq i n with | true => some ks | false => Zcf.find r n
inductive Zes (B : Env → Zaa → (Exit → Env → Zaa → Prop) → Prop) (ks : List Nat) (K : Exit → Env → Zaa → Prop) : Env → Zaa → Prop
  | mk {env : Env} {h : Zaa} (R : Exit → Env → Zaa → Prop) (hb : B env h R) (hn : ∀ env' h', R .normal env' h' → Zes B ks K (env'.keep ks) h')
      (hx : ∀ e env' h', e ≠ .normal → R e env' h' → K e env' h') : Zes B ks K env h
def Zct (id : Nat) (K : Exit → Env → Zaa → Prop) : Exit → Env → Zaa → Prop
  | .exit id', env, h => (match Nat.beq id' id with | true => K .normal env h | false => K (.exit id') env h)
  | e, env, h => K e env h
def andThen (next : Env → Zaa → Prop) (K : Exit → Env → Zaa → Prop) : Exit → Env → Zaa → Prop
  | .normal, env, h => next env h
  | e, env, h => K e env h
structure At (K : Exit → Env → Zaa → Prop) (e : Exit) (env : Env) (h : Zaa) : Prop where
  get : K e env h
def Zij (kp : Zcf) (r : Nat) (K : Exit → Env → Zaa → Prop) : Exit → Env → Zaa → Prop
  | .exit id, env, h => At K (.exit id) (env.keep ((kp.find (3000000 + r)).getD [])) h
  | e, env, h => K e (env.keep ((kp.find (3000000 + r)).getD [])) h
theorem Ypw {kp : Zcf} {r : Nat} {K : Exit → Env → Zaa → Prop} {e : Exit} {env : Env} {h : Zaa} (hk : Zij kp r K e env h) : K e (env.keep ((kp.find (3000000 + r)).getD [])) h := by
  cases e <;> first | exact hk.get | exact hk
def LK (P : Program) (base N : Nat) (w0 : World) (μ : List Pl) (K : Exit → Env → Zaa → Prop) (e : Exit) (a : Act) (w : World) : Prop := Yny P base N w0 μ (K e) a w
structure Den (P : Program) (N : Nat) (c : Code) (env : Env) (h : Zaa) (K : Exit → Env → Zaa → Prop) : Prop where
  ok : ∀ (base : Nat) (w0 : World) (μ : List Pl) (a : Act) (w : World), St P base N w0 μ env h a w → c.wp P (LK P base N w0 μ K) a w
def den (P : Program) (N : Nat) (kp : Zcf) : Code → Env → Zaa → (Exit → Env → Zaa → Prop) → Prop
  | .skip, env, h, K => K .normal env h
  | .region id ops draw, env, h, K =>
    (match draw with
    | false => Ytc P N ops ops.toList env h fun env' h' => K .normal env' h'
    | true => chk (P.follows .mixedOrders = true) (chk (Region.noSelect ops = true) (Yev P N ops ((kp.find (2000000 + id)).getD []) (fun env' h' => K .normal env' h') ops.size (Array.replicate ops.size false) [] env h)))
  | .seq a b, env, h, K => den P N kp a env h (andThen (fun env' h' => (match kp.find (4000000 + Zlt b) with | some ks => Den P N b (env'.keep ks) h' K | none => den P N kp b env' h' K)) K)
  | .cond c a b, env, h, K => (match ev env c with | .bool t => bcase t (den P N kp a env h K) (den P N kp b env h K) | _ => False)
  | .block id c, env, h, K => den P N kp c env h (Zct id K)
  | .loop c, env, h, K => Zes (Den P N c) ((kp.find (1000000 + Zlt c)).getD []) (Zij kp (Zlt c) K) (env.keep ((kp.find (1000000 + Zlt c)).getD [])) h
  | .exit id, env, h, K => K (.exit id) env h
  | .ret, env, h, K => K .ret env h
  | _, _, _, _ => False

def rnd (ks : List Nat) (I : Env → Zaa → Prop) (K : Exit → Env → Zaa → Prop) : Exit → Env → Zaa → Prop
  | .normal, env, h => I (env.keep ks) h
  | e, env, h => K e env h
def Zck (h : Zaa) (K : Zaa → Prop) : Prop := K h
section
variable {P : Program} {base N : Nat} {w0 : World} {μ : List Pl} {h : Zaa} {w : World}

theorem Ykp {ops : Array Oper} {hs : List Zye} {K : Env → Zaa → Prop} {Q : Exit → Act → World → Prop} : ∀ (f : Nat) {listed : Array Bool} {μ : List Pl} {h : Zaa} {w : World} {env : Env} {a : Act}, St P base N w0 μ env h a w →
    Yoc P N ops K hs f listed env h → (∀ a w, Yny P base N w0 μ K a w → Q .normal a w) → wpAny P .any ops Q f listed a w
  | 0, _, μ, h, w, env, a, s, hk, hq => ⟨hk.1, hq a w ⟨μ, env, h, Ext.refl _, s, hk.2⟩⟩
  | f + 1, listed, μ, h, w, env, a, s, hk, hq => by
    refine ⟨fun hr => hq a w ⟨μ, env, h, Ext.refl _, s, hk.1 hr⟩, fun i hi => ?_⟩
    have h1 := hk.2 i hi
    unfold Zuz at h1
    unfold wpOp
    cases ho : ops[i]? with
    | none => rw [ho] at h1; exact Ykp f s h1.2 hq
    | some o =>
      rw [ho] at h1
      have hstep := Ykg (next := wpAny P .any ops Q f (listed.setIfInBounds i true)) (Q := Q) s h1 (fun a' w' ⟨μ', env', h', hx, s', hk'⟩ => Ykp f s' hk'.2 (fun a w ⟨μ2, env2, h2, hx2, s2, k2⟩ => hq a w ⟨μ2, env2, h2, hx.trans hx2, s2, k2⟩))
      simp only
      split
      · rename_i hw; rw [if_pos hw] at hstep; exact .inl hstep
      · rename_i hw; rw [if_neg hw] at hstep; exact hstep

theorem Yny.ext {μ μ' : List Pl} (hx : Ext μ μ') {K K' : Env → Zaa → Prop} (hk : ∀ e h, K e h → K' e h) {a : Act} {w : World} (h : Yny P base N w0 μ' K a w) : Yny P base N w0 μ K' a w :=
  let ⟨μ2, env, h2, x, s, k⟩ := h
  ⟨μ2, env, h2, hx.trans x, s, hk _ _ k⟩
theorem St.keep {env : Env} {a : Act} (s : St P base N w0 μ env h a w) (ks : List Nat) : St P base N w0 μ (env.keep ks) h a w := ⟨s.rel, s.env.keep ks, s.size, s.defers⟩
theorem St.drew {env : Env} {a : Act} (s : St P base N w0 μ env h a w) : St P base N w0 μ env h a { w with drawn := w.drawn + 1 } :=
  ⟨s.rel.grow ⟨rfl, rfl, rfl, Nat.le_refl _, fun _ _ => rfl⟩, s.env, s.size, s.defers⟩

theorem Yqp {c : Code} {B : Env → Zaa → (Exit → Env → Zaa → Prop) → Prop} {ks : List Nat} {K : Exit → Env → Zaa → Prop} {μ0 : List Pl}
    (hB : ∀ (env : Env) (h : Zaa) (R : Exit → Env → Zaa → Prop) (μ : List Pl) (a : Act) (w : World), B env h R → St P base N w0 μ env h a w → c.wp P (LK P base N w0 μ R) a w) :
    ∀ {env : Env} {h : Zaa}, Zes B ks K env h → ∀ (μ : List Pl) (a : Act) (w : World), Ext μ0 μ → St P base N w0 μ env h a w → ∀ (b : Frame) (k : List Item) (cs : List Frame),
      ∃ e a' w', LK P base N w0 μ0 K e a' w' ∧ Arrives P (lone (b.at a (.code c :: .inLoop c :: k)) cs w) b k cs e a' w' := by
  intro env h hl
  induction hl with
  | @mk env h R hb hn hx ih =>
    intro μ a w hμ s b k cs
    obtain ⟨e, a1, w1, hq, harr⟩ := hB env h R μ a w hb s b (.inLoop c :: k) cs
    obtain ⟨μ1, env1, h1, hx1, s1, hr⟩ := hq
    have out : e ≠ .normal → LK P base N w0 μ0 K e a1 w1 := fun hne => ⟨μ1, env1, h1, hμ.trans hx1, s1, hx e env1 h1 hne hr⟩
    cases e with
    | normal =>
      obtain ⟨e2, a2, w2, hq2, harr2⟩ := ih env1 h1 hr μ1 a1 w1 (hμ.trans hx1) (s1.keep ks) b k cs
      exact ⟨e2, a2, w2, hq2, .of_steps (Steps.trans harr (.one step_inLoop)) harr2⟩
    | exit id => exact ⟨_, a1, w1, out (by simp), .pass (x := .inLoop c) rfl (fun _ _ => .inl (by simp)) harr⟩
    | goto l => exact ⟨_, a1, w1, out (by simp), .pass (x := .inLoop c) rfl (fun _ _ => .inl (by simp)) harr⟩
    | ret => exact ⟨_, a1, w1, out (by simp), .pass (x := .inLoop c) rfl (fun _ _ => .inl (by simp)) harr⟩
    | panic ch => exact ⟨_, a1, w1, out (by simp), .pass (x := .inLoop c) rfl (fun _ _ => .inl (by simp)) harr⟩
    | outgrown => exact ⟨_, a1, w1, out (by simp), .pass (x := .inLoop c) rfl (fun _ _ => .inl (by simp)) harr⟩

theorem Zwz (kp : Zcf) : ∀ (c : Code) (env : Env) (h : Zaa) (K : Exit → Env → Zaa → Prop) (μ : List Pl) (a : Act) (w : World), den P N kp c env h K → St P base N w0 μ env h a w → c.wp P (LK P base N w0 μ K) a w
  | .skip, env, h, K, μ, a, w, hk, s => wp_skip ⟨μ, env, h, Ext.refl _, s, hk⟩
  | .region id ops draw, env, h, K, μ, a, w, hk, s => by
    unfold den at hk
    split at hk
    · exact wp_region_list (Ypc _ s hk fun a w hp => hp)
    · replace hk := Zbo hk
      obtain ⟨hm, hk⟩ := hk
      replace hk := Zbo hk
      obtain ⟨_, hk⟩ := hk
      exact wp_region_any hm (Ykp _ s.drew (Zsp _ _ _ _ _ hk) fun a w hp => by
        obtain ⟨μ', env', h', x, s2, k⟩ := hp
        exact ⟨μ', _, h', x, s2.keep _, k⟩)
  | .seq x y, env, h, K, μ, a, w, hk, s => by
    unfold den at hk
    refine wp_seq (wp_mono (Zwz kp x env h _ μ a w hk s) fun e a w hp => ?_)
    obtain ⟨μ', env', h', hx, s', k⟩ := hp
    cases e with
    | normal =>
      replace k : (match kp.find (4000000 + Zlt y) with | some ks => Den P N y (env'.keep ks) h' K | none => den P N kp y env' h' K) := k
      split at k
      · exact wp_mono (k.ok base w0 μ' a w (s'.keep _)) fun e a w hp => Yny.ext hx (fun _ _ k => k) hp
      · exact wp_mono (Zwz kp y _ h' K μ' a w k s') fun e a w hp => Yny.ext hx (fun _ _ k => k) hp
    | _ => exact ⟨μ', env', h', hx, s', k⟩
  | .cond c x y, env, h, K, μ, a, w, hk, s => by
    unfold den at hk
    split at hk
    · rename_i t ht
      have hv := Ysg s.env c
      rw [ht] at hv
      have hc : a.eval c = .bool t := by
        cases hy : a.eval c with
        | bool b => rw [hy] at hv; cases hv; rfl
        | _ => rw [hy] at hv; cases hv
      refine wp_cond hc ?_
      cases t
      · exact Zwz kp y env h K μ a w hk s
      · exact Zwz kp x env h K μ a w hk s
    · exact hk.elim
  | .block id c, env, h, K, μ, a, w, hk, s => by
    unfold den at hk
    refine wp_block (wp_mono (Zwz kp c env h _ μ a w hk s) fun e a w hp => ?_)
    obtain ⟨μ', env', h', hx, s', k⟩ := hp
    cases e with
    | exit id' =>
      simp only [Zct] at k
      simp only [Exit.inBlock]
      cases hb : Nat.beq id' id with
      | true => rw [hb] at k; rw [if_pos (Nat.eq_of_beq_eq_true hb)]; exact ⟨μ', env', h', hx, s', k⟩
      | false => rw [hb] at k; rw [if_neg (Nat.ne_of_beq_eq_false hb)]; exact ⟨μ', env', h', hx, s', k⟩
    | _ => exact ⟨μ', env', h', hx, s', k⟩
  | .loop c, env, h, K, μ, a, w, hk, s => by
    unfold den at hk
    intro b k cs
    obtain ⟨e, a', w', hq, harr⟩ := Yqp (μ0 := μ) (fun env h R μ a w hb s => hb.ok base w0 μ a w s) hk μ a w (Ext.refl _) (s.keep _) b k cs
    obtain ⟨μ', env', h', hx, s', k⟩ := hq
    exact ⟨e, a', w', ⟨μ', _, h', hx, s'.keep _, Ypw k⟩, .of_steps (.one step_loop) harr⟩
  | .exit id, env, h, K, μ, a, w, hk, s => wp_exit ⟨μ, env, h, Ext.refl _, s, hk⟩
  | .ret, env, h, K, μ, a, w, hk, s => wp_ret ⟨μ, env, h, Ext.refl _, s, hk⟩
  | .scope c, env, h, K, μ, a, w, hk, s => by unfold den at hk; exact hk.elim
  | .rangeFunc f ps x y, env, h, K, μ, a, w, hk, s => by unfold den at hk; exact hk.elim
  | .label l, env, h, K, μ, a, w, hk, s => by unfold den at hk; exact hk.elim
  | .goto l, env, h, K, μ, a, w, hk, s => by unfold den at hk; exact hk.elim
  | .refuse y, env, h, K, μ, a, w, hk, s => by unfold den at hk; exact hk.elim
end

theorem Zbe {P : Program} {N : Nat} {kp : Zcf} {c : Code} {env : Env} {h : Zaa} {K : Exit → Env → Zaa → Prop} (hk : den P N kp c env h K) : Den P N c env h K :=
  ⟨fun _ _ μ a w s => Zwz kp c env h K μ a w hk s⟩

def Ypm (P : Program) (env : Env) (h : Zaa) : List ResultVar → (List Zaq → Prop) → Prop
  | [], K => K []
  | .tmp t :: r, K => Ypm P env h r fun vs => K (env.get t :: vs)
  | .cell a t :: r, K => chk ((P.underlying t).isSome = true) (Zux P t h (env.get a) fun v => Ypm P env h r fun vs => K (v :: vs))
def Zfc (P : Program) (rs : List ResultVar) (Q : Zaq → Zaa → Prop) : Exit → Env → Zaa → Prop
  | .normal, env, h => Ypm P env h rs fun vs => (match vs with | [v] => Q v h | vs => Q (.tup vs) h)
  | .ret, env, h => Ypm P env h rs fun vs => (match vs with | [v] => Q v h | vs => Q (.tup vs) h)
  | _, _, _ => False
section
variable {P : Program} {base N : Nat} {w0 : World} {μ : List Pl} {h : Zaa} {w : World}
theorem Ydj {env : Env} {a : Act} (s : St P base N w0 μ env h a w) : ∀ (rs : List ResultVar) {K : List Zaq → Prop}, Ypm P env h rs K →
    ∃ xs vs, (rs.mapM fun (x : ResultVar) => (match x with | .tmp t => pure (a.tmps.getD t undef) | .cell b t => do loadVar t (← asAddr (a.tmps.getD b undef)) : Sem Value)).run P w = .ok xs w ∧ VRs μ vs xs ∧ K vs
  | [], K, hk => ⟨[], [], by simp, .nil, hk⟩
  | .tmp t :: r, K, hk => by
    obtain ⟨xs, vs, hr, hv, hk⟩ := Ydj s r hk
    refine ⟨a.tmps.getD t undef :: xs, env.get t :: vs, ?_, .cons (s.env t) hv, hk⟩
    rw [List.mapM_cons]
    simp only [Sem.run_bind, Sem.run_pure, Result.andThen_ok, hr]
  | .cell b t :: r, K, hk => by
    unfold Ypm at hk
    replace hk := Zbo hk
    obtain ⟨hu, hk⟩ := hk
    obtain ⟨y, v, hl, hv, hk⟩ := Yiu s.rel (s.env b) hu hk
    obtain ⟨xs, vs, hr, hvs, hk⟩ := Ydj s r hk
    refine ⟨y :: xs, v :: vs, ?_, .cons hv hvs, hk⟩
    rw [List.mapM_cons]
    have hl2 : (do loadVar t (← asAddr (a.tmps.getD b undef)) : Sem Value).run P w = .ok y w := by
      unfold Instr.loadAt at hl
      cases hx : a.tmps.getD b undef with
      | pointer p =>
        cases p with
        | none => rw [hx] at hl; simp [Instr.sureAddr] at hl
        | some q => rw [hx] at hl; simpa [Instr.sureAddr, asAddr] using hl
      | _ => rw [hx] at hl; simp [Instr.sureAddr] at hl
    simp only [Sem.run_bind] at hl2
    simp only [Sem.run_bind, hl2, Sem.run_pure, Result.andThen_ok, hr]

theorem Yge : ∀ (args : List Zaq) (xs : List Value) (i : Nat) (t : Nat), VRs μ args xs → VR μ ((Env.args i args).get t) (((List.replicate i undef) ++ xs)[t]?.getD undef)
  | [], xs, i, t, h => .undef _
  | v :: r, xs, i, t, h => by
    cases h with
    | @cons _ x _ ys hv hr =>
    simp only [Env.args, Env.get]
    cases hb : Nat.beq i t with
    | true =>
      have e := Nat.eq_of_beq_eq_true hb
      subst e
      rw [List.getElem?_append_right (by simp)]
      simpa using hv
    | false =>
      have ne := Nat.ne_of_beq_eq_false hb
      have ih := Yge r ys (i + 1) t hr
      by_cases hlt : t < i
      · rw [List.getElem?_append_left (by simpa using hlt)]
        rw [List.getElem?_append_left (by simp; omega)] at ih
        simp [hlt, show t < i + 1 by omega] at ih ⊢
        exact ih
      · rw [List.getElem?_append_right (by simp; omega)] at ih ⊢
        simp only [List.length_replicate] at ih ⊢
        rw [show t - i = (t - (i + 1)) + 1 by omega]
        simpa using ih

theorem Zag.of_body {n : FuncId} {fn : Func} {c : Code} {args : List Zaq} {h : Zaa} {Q : Zaq → Zaa → Prop} (kp : Zcf) (hf : P.funcs[n]? = some fn) (hb : fn.body = some c) (hname : (fn.name == "runtime.NumGoroutine") = false)
    (hn : args.length ≤ fn.ntmps) (hd : den P fn.ntmps kp c (Env.args 0 args) h (Zfc P fn.results.toList Q)) : Zag P n args h Q := by
  refine ⟨⟨fn, hf, by rw [hb]; rfl, hname⟩, fun base w0 μ w xs r hx => ?_⟩
  have hl := hx.length
  simp only [Array.length_toList] at hl
  refine calls_of_wp hf hb ?_
  have s : St P base fn.ntmps w0 μ (Env.args 0 args) h { tmps := xs ++ Array.replicate (fn.ntmps - xs.size) undef, defers := [] } w := by
    refine ⟨r, fun t => ?_, by simp; omega, rfl⟩
    have := Yge args xs.toList 0 t hx
    simp only [List.replicate_zero, List.nil_append, Array.getElem?_toList] at this
    simp only [Array.getD_eq_getD_getElem?, Array.getElem?_append, Array.getElem?_replicate]
    by_cases h1 : t < xs.size
    · simp only [h1, if_true]; exact this
    · rw [Array.getElem?_eq_none (by omega)] at this
      simp only [h1, if_false]
      split <;> simpa using this
  refine wp_mono (Zwz kp c _ h _ μ _ w hd s) fun e a w hp => ?_
  obtain ⟨μ', env', h', hx', s', hk⟩ := hp
  have fin : Ypm P env' h' fn.results.toList (fun vs => (match vs with | [v] => Q v h' | vs => Q (.tup vs) h')) →
      a.defers = [] ∧ ∃ v, (results fn a.tmps).run P w = .ok v w ∧ ∃ x μ' v' h', Ending.returned v = .returned x ∧ Ext μ μ' ∧ Rel P base w0 μ' h' w ∧ VR μ' v' x ∧ Q v' h' := by
    intro hk
    obtain ⟨ys, vs, hr, hv, hk⟩ := Ydj s' _ hk
    refine ⟨s'.defers, (if h : ys.toArray.size = 1 then ys.toArray[0] else .tuple ys.toArray), ?_, ?_⟩
    · unfold results
      rw [Array.mapM_eq_mapM_toList]
      simp only [Sem.run_bind, Sem.run_map]
      erw [hr]
      simp only [Result.andThen_ok, Sem.run_pure]
    · have hlen := hv.length
      match vs, ys, hv, hk with
      | [v], [y], .cons hvy .nil, hk => exact ⟨y, μ', v, h', by simp, hx', s'.rel, hvy, hk⟩
      | [], [], .nil, hk => exact ⟨_, μ', .tup [], h', rfl, hx', s'.rel, .tup .nil, hk⟩
      | v :: u :: vs, y :: z :: ys, hv, hk => exact ⟨.tuple (y :: z :: ys).toArray, μ', .tup (v :: u :: vs), h', by simp, hx', s'.rel, .tup (by simpa using hv), hk⟩
  cases e with
  | normal => exact fin hk
  | ret => exact fin hk
  | _ => exact hk.elim
end
end Go.Sim
