/- The abstract operations. -/
import Derived.Test.YtgiiilhdmfddcaaSimA
set_option linter.unusedVariables false
set_option linter.unusedSimpArgs false
namespace Go.Sim
open Go Go.RowKit

def xBool (o : Option AVal) (K : Bool → Prop) : Prop := match o with | some (.bool b) => K b | _ => False
def xInt (k : IntKind) (o : Option AVal) (K : Int → Prop) : Prop := match o with | some (.int k' n) => k' = k ∧ K n | _ => False
def xStr (o : Option AVal) (K : List Nat → Prop) : Prop := match o with | some (.str s) => K s | _ => False
def xPtr (o : Option AVal) (K : Option (Nat × Nat) → Prop) : Prop := match o with | some (.ptr a) => K a | _ => False
def xSl (o : Option AVal) (K : Option (Nat × Nat) → Nat → Nat → Bool → Prop) : Prop := match o with | some (.slice a n c e) => K a n c e | _ => False
def xMap (o : Option AVal) (K : Option Nat → Prop) : Prop := match o with | some (.map a) => K a | _ => False
def xAny (o : Option AVal) (K : AVal → Prop) : Prop := match o with | some v => K v | none => False
def xCons (cs : List AVal) (K : AVal → List AVal → Prop) : Prop := match cs with | c :: r => K c r | [] => False
def xNil (cs : List AVal) (K : Prop) : Prop := match cs with | [] => K | _ => False
def xRow (o : Option (List AVal)) (K : List AVal → Prop) : Prop := match o with | some cs => K cs | none => False
def xAgg (v : AVal) (K : List AVal → Prop) : Prop := match v with | .agg cs => K cs | _ => False
def xTup (v : AVal) (K : List AVal → Prop) : Prop := match v with | .tup cs => K cs | _ => False

inductive Sh where
  | bool | int (k : IntKind) | str | ptr | slice | map | any
def xv : Sh → Option AVal → (AVal → Prop) → Prop
  | .bool, o, K => xBool o fun b => K (.bool b)
  | .int k, o, K => xInt k o fun n => K (.int k n)
  | .str, o, K => xStr o fun s => K (.str s)
  | .ptr, o, K => xPtr o fun a => K (.ptr a)
  | .slice, o, K => xSl o fun a n c e => K (.slice a n c e)
  | .map, o, K => xMap o fun a => K (.map a)
  | .any, o, K => xAny o K
def xs : List Sh → List AVal → (List AVal → Prop) → Prop
  | [], cs, K => xNil cs (K [])
  | s :: ss, cs, K => xCons cs fun c r => xv s (some c) fun v => xs ss r fun vs => K (v :: vs)

def isAgg (P : Program) (t : TypeId) : Bool := match P.underlying t with | some (.struct _) => true | some (.array _ _) => true | _ => false
def leafSh (P : Program) (t : TypeId) : Sh :=
  match P.underlying t with
  | some .bool => .bool
  | some (.int k) => .int k
  | some .string => .str
  | some (.pointer _) => .ptr
  | some (.slice _) => .slice
  | some (.map _ _) => .map
  | _ => .any
def shapes (P : Program) : Nat → TypeId → List Sh
  | 0, _ => [.any]
  | n + 1, t =>
    match P.underlying t with
    | some (.struct fs) => (fs.toList.map fun f => shapes P n f.type).flatten
    | some (.array k e) => (List.replicate k (shapes P n e)).flatten
    | _ => [leafSh P t]
/-- A value of a type, taken apart. -/
def xt (P : Program) (t : TypeId) (v : AVal) (K : AVal → Prop) : Prop :=
  match isAgg P t with
  | true => xAgg v fun cs => xs (shapes P 6 t) cs fun vs => K (.agg vs)
  | false => xv (leafSh P t) (some v) K
def xts (P : Program) : List TypeId → List AVal → (List AVal → Prop) → Prop
  | [], cs, K => xNil cs (K [])
  | t :: ts, cs, K => xCons cs fun c r => xt P t c fun v => xts P ts r fun vs => K (v :: vs)
/-- A call's result. -/
def xres (P : Program) (ts : List TypeId) (v : AVal) (K : AVal → Prop) : Prop :=
  match ts with
  | [] => K v
  | [t] => xt P t v K
  | ts => xTup v fun cs => xts P ts cs fun vs => K (.tup vs)

theorem xv_elim {s : Sh} {o : Option AVal} {K : AVal → Prop} (h : xv s o K) : ∃ v, o = some v ∧ K v := by
  cases s <;> simp only [xv, xBool, xInt, xStr, xPtr, xSl, xMap, xAny] at h <;> split at h <;> first
    | exact h.elim
    | exact ⟨_, rfl, h⟩
    | (obtain ⟨rfl, h⟩ := h; exact ⟨_, rfl, h⟩)
theorem xs_elim : ∀ {ss : List Sh} {cs : List AVal} {K : List AVal → Prop}, xs ss cs K → K cs
  | [], cs, K, h => by
    unfold xs xNil at h
    split at h
    · exact h
    · exact h.elim
  | s :: ss, cs, K, h => by
    simp only [xs, xCons] at h
    split at h
    · obtain ⟨v, hv, h⟩ := xv_elim h
      cases hv
      exact xs_elim (K := fun vs => K (_ :: vs)) h
    · exact h.elim
theorem xt_elim {P : Program} {t : TypeId} {v : AVal} {K : AVal → Prop} (h : xt P t v K) : K v := by
  unfold xt at h
  split at h
  · unfold xAgg at h
    split at h
    · exact xs_elim (K := fun vs => K (.agg vs)) h
    · exact h.elim
  · obtain ⟨w, hw, h⟩ := xv_elim h
    cases hw; exact h
theorem xts_elim {P : Program} : ∀ {ts : List TypeId} {cs : List AVal} {K : List AVal → Prop}, xts P ts cs K → K cs
  | [], cs, K, h => by
    unfold xts xNil at h
    split at h
    · exact h
    · exact h.elim
  | s :: ss, cs, K, h => by
    simp only [xts, xCons] at h
    split at h
    · exact xts_elim (K := fun vs => K (_ :: vs)) (xt_elim h)
    · exact h.elim
theorem xres_elim {P : Program} {ts : List TypeId} {v : AVal} {K : AVal → Prop} (h : xres P ts v K) : K v := by
  unfold xres at h
  split at h
  · exact h
  · exact xt_elim h
  · unfold xTup at h
    split at h
    · exact xts_elim (K := fun vs => K (.tup vs)) h
    · exact h.elim

def hCell (h : AHeap) (p : AVal) : Option AVal :=
  match p with
  | .ptr (some (i, o)) => (match h[i]? with | some (.cells _ cs _) => cs[o]? | _ => none)
  | _ => none
def hRow (h : AHeap) (p : AVal) (n : Nat) : Option (List AVal) :=
  match p with
  | .ptr (some (i, o)) => (match h[i]? with | some (.cells _ cs _) => if o + n ≤ cs.length then some ((cs.drop o).take n) else none | _ => none)
  | _ => none
def loadA (P : Program) (t : TypeId) (h : AHeap) (p : AVal) (K : AVal → Prop) : Prop :=
  match isAgg P t with
  | true => xRow (hRow h p (P.cellsOf t)) fun cs => xs (shapes P 6 t) cs fun vs => K (.agg vs)
  | false => xv (leafSh P t) (hCell h p) K

def AVal.leaf : AVal → Bool
  | .undef | .agg _ | .tup _ | .iter _ => false
  | _ => true
/-- The cells of a value that may lie in memory. -/
def sv : AVal → Option (List AVal)
  | .agg cs => (match cs.all AVal.leaf with | true => some cs | false => none)
  | v => (match v.leaf with | true => some [v] | false => none)
def putRow (cs : List AVal) (o : Nat) (vs : List AVal) : List AVal := cs.take o ++ vs ++ cs.drop (o + vs.length)
def hStore (h : AHeap) (p : AVal) (vs : List AVal) : Option AHeap :=
  match p with
  | .ptr (some (i, o)) => (match h[i]? with
    | some (.cells t cs false) => if o + vs.length ≤ cs.length then some (h.set i (.cells t (putRow cs o vs) false)) else none
    | _ => none)
  | _ => none
def xHeap (o : Option AHeap) (K : AHeap → Prop) : Prop := match o with | some h => K h | none => False
def storeA (P : Program) (t : TypeId) (h : AHeap) (p v : AVal) (K : AHeap → Prop) : Prop :=
  match sv v with
  | some vs => (match Nat.beq vs.length (P.cellsOf t) with | true => xHeap (hStore h p vs) K | false => False)
  | none => False

/-- A constant's abstract value. -/
def cstLeaf : Value → AVal
  | .bool b => .bool b
  | .int k n => .int k n
  | .string s => .str (bytesOf s)
  | .pointer none => .ptr none
  | .slice none 0 0 => .slice none 0 0 true
  | .map none => .map none
  | .nilFunc => .nilFn
  | _ => .undef
def cst : Value → AVal
  | .agg xs => .agg (xs.toList.map cstLeaf)
  | v => cstLeaf v
def ev (env : Env) : Operand → AVal
  | .tmp t => env.get t
  | .const v => cst v
  | .global _ => .undef
  | .func f => .fn f []

def alive (h : AHeap) (i : Nat) : Prop := ∃ t cs, h[i]? = some (.cells t cs false)
def natLess : List Nat → List Nat → Bool
  | _, [] => false
  | [], _ :: _ => true
  | a :: x, b :: y => a < b || (a == b && natLess x y)
def lEq (s : Sh) (x y : AVal) : Option Bool :=
  match s with
  | .str => (match x with | .str a => (match y with | .str b => some (decide (a = b)) | _ => none) | _ => none)
  | .int _ => (match x with | .int k a => (match y with | .int k' b => if k = k' then some (a == b) else none | _ => none) | _ => none)
  | .bool => (match x with | .bool a => (match y with | .bool b => some (a == b) | _ => none) | _ => none)
  | _ => none
def lsEq : List Sh → List AVal → List AVal → Option Bool
  | [], [], [] => some true
  | [s], [a], [b] => lEq s a b
  | s :: ss, a :: as', b :: bs => match lEq s a b with | some e => (match lsEq ss as' bs with | some f => some (e && f) | none => none) | none => none
  | _, _, _ => none
/-- The shapes of the fields of a struct type whose values may be compared field by field, each field one cell. -/
def flatSh (P : Program) (t : TypeId) : List Sh :=
  match P.stoodInHeld t || P.eqGuardType P.depth t with
  | true => [.any]
  | false => (match P.underlying t with
    | some (.struct fs) => (List.range fs.size).map fun i => match fs[i]? with
      | some f => if f.name ≠ "_" ∧ f.offset = i then leafSh P f.type else .any
      | none => .any
    | _ => [.any])
/-- A condition that the kernel decides: nothing of it is left. -/
def chk (p : Prop) [Decidable p] (K : Prop) : Prop := match decide p with | true => K | false => False
theorem chk_elim {p : Prop} [Decidable p] {K : Prop} (h : chk p K) : p ∧ K := by
  unfold chk at h
  split at h
  · rename_i hd; exact ⟨of_decide_eq_true hd, h⟩
  · exact h.elim
def isBoolT (P : Program) (t : TypeId) : Bool := match P.underlying t with | some .bool => true | _ => false
def isStrT (P : Program) (t : TypeId) : Bool := match P.underlying t with | some .string => true | _ => false
def isIntT (P : Program) (t : TypeId) : Bool := match P.underlying t with | some (.int _) => true | _ => false
def isPtrT (P : Program) (t : TypeId) : Bool := match P.underlying t with | some (.pointer _) => true | _ => false
def isSlT (P : Program) (t : TypeId) : Bool := match P.underlying t with | some (.slice _) => true | _ => false
theorem isBoolT_ok {P : Program} {t : TypeId} (h : isBoolT P t = true) : P.underlying t = some .bool := by unfold isBoolT at h; split at h <;> simp_all
theorem isStrT_ok {P : Program} {t : TypeId} (h : isStrT P t = true) : P.underlying t = some .string := by unfold isStrT at h; split at h <;> simp_all
theorem isIntT_ok {P : Program} {t : TypeId} (h : isIntT P t = true) : ∃ k, P.underlying t = some (.int k) := by unfold isIntT at h; split at h <;> simp_all
theorem isPtrT_ok {P : Program} {t : TypeId} (h : isPtrT P t = true) : ∃ e, P.underlying t = some (.pointer e) := by unfold isPtrT at h; split at h <;> simp_all
theorem isSlT_ok {P : Program} {t : TypeId} (h : isSlT P t = true) : ∃ e, P.underlying t = some (.slice e) := by unfold isSlT at h; split at h <;> simp_all
/-- Pointers: one of the two is nil. -/
def ptrEq (a b : Option (Nat × Nat)) (K : Bool → Prop) : Prop :=
  match b with | none => K a.isNone | some _ => (match a with | none => K false | some _ => False)
def eqA (P : Program) (t : TypeId) (x y : AVal) (K : Bool → Prop) : Prop :=
  match x with
  | .int k a => (match y with | .int k' b => chk (k = k') (K (a == b)) | _ => False)
  | .str a => (match y with | .str b => K (decide (a = b)) | _ => False)
  | .bool a => (match y with | .bool b => chk (isBoolT P t = true) (K (a == b)) | _ => False)
  | .ptr a => (match y with | .ptr b => chk (isPtrT P t = true) (ptrEq a b K) | _ => False)
  | .agg xs => (match y with | .agg ys => (match lsEq (flatSh P t) xs ys with | some e => K e | none => False) | _ => False)
  | .slice a _ _ e => (match y with | .slice none 0 0 true => chk (isSlT P t = true) ((a = none → e = true) ∧ K a.isNone) | _ => False)
  | _ => False
def binA (P : Program) (op : BinOp) (t : TypeId) (x y : AVal) (K : AVal → Prop) : Prop :=
  match op with
  | .eql => eqA P t x y fun b => K (.bool b)
  | .neq => eqA P t x y fun b => K (.bool (!b))
  | op => (match x with
    | .int k a => (match y with
      | .int k' b => (match op with
        | .add => chk (k = k') (K (.int k (k.wrap (a + b))))
        | .sub => chk (k = k') (K (.int k (k.wrap (a - b))))
        | .mul => chk (k = k') (K (.int k (k.wrap (a * b))))
        | .quo => chk (k = k') (b ≠ 0 ∧ K (.int k (k.wrap (a.tdiv b))))
        | .rem => chk (k = k') (b ≠ 0 ∧ K (.int k (a.tmod b)))
        | .lss => chk (k = k') (K (.bool (decide (a < b))))
        | .leq => chk (k = k') (K (.bool (decide (a ≤ b))))
        | .gtr => chk (k = k') (K (.bool (decide (a > b))))
        | .geq => chk (k = k') (K (.bool (decide (a ≥ b))))
        | .xor => chk (k = k') (K (.int k (k.wrap (BitVec.ofInt k.bits a ^^^ BitVec.ofInt k.bits b).toNat)))
        | .shr => 0 ≤ b ∧ K (.int k (a.fdiv (2 ^ (min b.toNat k.bits))))
        | _ => False)
      | _ => False)
    | .str a => (match y with
      | .str b => (match op with
        | .add => a.length + b.length ≤ 9223372036854775807 ∧ K (.str (a ++ b))
        | .lss => K (.bool (natLess a b))
        | .leq => K (.bool (natLess a b || decide (a = b)))
        | .gtr => K (.bool (!(natLess a b || decide (a = b))))
        | .geq => K (.bool (!natLess a b))
        | _ => False)
      | _ => False)
    | _ => False)
def unA (op : UnOp) (x : AVal) (K : AVal → Prop) : Prop :=
  match op with
  | .not => (match x with | .bool b => K (.bool (!b)) | _ => False)
  | .neg => (match x with | .int k n => K (.int k (k.wrap (0 - n))) | _ => False)
  | _ => False

def bcase (b : Bool) (A B : Prop) : Prop := match b with | true => A | false => B
theorem bcase_intro {b : Bool} {A B : Prop} (h : b = true → A) (k : b = false → B) : bcase b A B := by cases b <;> simp_all [bcase]
theorem bcase_elim {b : Bool} {A B C : Prop} (h : bcase b A B) (k : b = true → A → C) (k' : b = false → B → C) : C := by cases b <;> simp_all [bcase]

def pickA (c a b : AVal) (K : AVal → Prop) : Prop := match c with | .bool c => bcase c (K a) (K b) | _ => False
/-- A place that is not nil. -/
def xSome (a : Option (Nat × Nat)) (K : Nat → Nat → Prop) : Prop := match a with | some (b, o) => K b o | none => False
theorem xSome_elim {a : Option (Nat × Nat)} {K : Nat → Nat → Prop} (h : xSome a K) : ∃ b o, a = some (b, o) ∧ K b o := by
  unfold xSome at h
  split at h
  · exact ⟨_, _, rfl, h⟩
  · exact h.elim
def nilA (x : AVal) (K : AVal → Prop) : Prop := match x with | .ptr a => xSome a (fun b o => K (.ptr (some (b, o)))) | .fn f cs => K (.fn f cs) | _ => False
def extractA (x : AVal) (i : Nat) (K : AVal → Prop) : Prop := match x with | .tup vs => xAny vs[i]? K | _ => False
def fieldOf (P : Program) (t : TypeId) (i : Nat) : Option Field := match P.underlying t with | some (.struct fs) => fs[i]? | _ => none
def xField (o : Option Field) (K : Field → Prop) : Prop := match o with | some f => K f | none => False
/-- A part of a struct or array value. -/
def partA (P : Program) (t : TypeId) (cs : List AVal) (off : Nat) (K : AVal → Prop) : Prop :=
  match isAgg P t with
  | true => K (.agg ((cs.drop off).take (P.cellsOf t)))
  | false => chk ((P.underlying t).isSome = true) (xAny cs[off]? K)
def fieldA (P : Program) (t : TypeId) (x : AVal) (i : Nat) (K : AVal → Prop) : Prop :=
  match x with
  | .agg cs => xField (fieldOf P t i) fun f => partA P f.type cs f.offset K
  | _ => False
def fieldAddrA (P : Program) (t : TypeId) (x : AVal) (i : Nat) (K : AVal → Prop) : Prop :=
  match x with
  | .ptr a => xField (fieldOf P t i) fun f => chk ((P.underlying f.type).isSome = true) (chk (P.cellsOf f.type ≠ 0) (xSome a fun b o => K (.ptr (some (b, o + f.offset)))))
  | _ => False
def indexAddrA (P : Program) (t : TypeId) (x i : AVal) (K : AVal → Prop) : Prop :=
  match i with
  | .int _ n => (match P.underlying t with
    | some (.slice e) => (match x with
      | .slice a len _ _ => chk ((P.underlying e).isSome = true) ((0 ≤ n ∧ n < len) ∧ xSome a fun b o => K (.ptr (some (b, o + n.toNat * P.cellsOf e))))
      | _ => False)
    | some (.array len e) => (match x with
      | .ptr a => chk ((P.underlying e).isSome = true) ((0 ≤ n ∧ n < len) ∧ xSome a fun b o => K (.ptr (some (b, o + n.toNat * P.cellsOf e))))
      | _ => False)
    | _ => False)
  | _ => False
def byteAt (s : List Nat) (n : Int) (K : Nat → Prop) : Prop := (0 ≤ n ∧ n < s.length) ∧ K (s.getD n.toNat 0)
def indexA (P : Program) (t : TypeId) (x i : AVal) (K : AVal → Prop) : Prop :=
  match i with
  | .int _ n => (match P.underlying t with
    | some .string => (match x with | .str s => byteAt s n fun b => K (.int .u8 b) | _ => False)
    | some (.array len e) => (match x with
      | .agg cs => chk ((P.underlying e).isSome = true) ((0 ≤ n ∧ n < len) ∧ partA P e cs (n.toNat * P.cellsOf e) K)
      | _ => False)
    | _ => False)
  | _ => False
def optInt (o : Option AVal) (d : Int) (K : Int → Prop) : Prop :=
  match o with
  | none => K d
  | some (.int _ n) => K n
  | some _ => False
/-- The bytes of s from l to h. -/
def sub (s : List Nat) (l h : Int) : List Nat := (s.take h.toNat).drop l.toNat
def sliceStr (s : List Nat) (lo hi : Option AVal) (K : AVal → Prop) : Prop :=
  optInt hi s.length fun h => optInt lo 0 fun l => (0 ≤ l ∧ l ≤ h ∧ h ≤ s.length) ∧ K (.str (sub s l h))
def sliceSl (a : Option (Nat × Nat)) (len cap : Nat) (ex : Bool) (sz : Nat) (lo hi mx : Option AVal) (K : AVal → Prop) : Prop :=
  optInt mx cap fun m => optInt hi len fun h => optInt lo 0 fun l => (0 ≤ l ∧ l ≤ h ∧ h ≤ m ∧ m ≤ cap) ∧
    (match a with
     | none => (l = 0 ∧ h = 0 ∧ (mx = none ∨ m = 0)) ∧ K (.slice none 0 (match mx with | some _ => 0 | none => cap) ex)
     | some (b, o) =>
       (l < m → K (.slice (some (b, o + l.toNat * sz)) (h - l).toNat (m - l).toNat (ex || mx.isSome))) ∧
       (¬ l < m → K (.slice none 0 (if ex || mx.isSome then 0 else 1) false)))
def sliceA (P : Program) (t : TypeId) (x : AVal) (lo hi mx : Option AVal) (K : AVal → Prop) : Prop :=
  match P.underlying t with
  | some .string => (match x with | .str s => chk (mx.isNone = true) (sliceStr s lo hi K) | _ => False)
  | some (.slice e) => (match x with | .slice a len cap ex => chk ((P.underlying e).isSome = true) (chk ((mx.isNone || hi.isSome) = true) (sliceSl a len cap ex (P.cellsOf e) lo hi mx fun v => xv .slice (some v) K)) | _ => False)
  | _ => False
def convA (P : Program) (src dst : TypeId) (x : AVal) (K : AVal → Prop) : Prop :=
  match P.underlying dst with
  | some (.int k) => (match x with | .int _ n => chk ((P.underlying src).isSome = true) (K (.int k (k.wrap n))) | _ => False)
  | some .string => (match x with
    | .str s => chk (isStrT P src = true) (K (.str s))
    | .int _ n => chk (isIntT P src = true) ((0 ≤ n ∧ n < 128) ∧ K (.str [n.toNat]))
    | _ => False)
  | _ => False
def lenA (P : Program) (ts : Array TypeId) (xs : List AVal) (K : AVal → Prop) : Prop :=
  match xs with
  | [.str s] => chk (((ts[0]?).map (isStrT P)).getD false = true) (K (.int .i64 s.length))
  | [.slice _ n _ _] => chk (((ts[0]?).map (isSlT P)).getD false = true) (K (.int .i64 n))
  | _ => False
/-- Operations that neither look at memory nor write it. -/
def pureA (P : Program) (env : Env) (o : Oper) (K : AVal → Prop) : Prop :=
  match o.op with
  | .move x | .assign x => K (ev env x)
  | .pick c a b => pickA (ev env c) (ev env a) (ev env b) K
  | .binOp op t x y _ => binA P op t (ev env x) (ev env y) K
  | .unOp op _ x => unA op (ev env x) K
  | .nilCheck x => nilA (ev env x) K
  | .extract x i => extractA (ev env x) i K
  | .field t x i => fieldA P t (ev env x) i K
  | .fieldAddr t x i => fieldAddrA P t (ev env x) i K
  | .indexAddr t x i => indexAddrA P t (ev env x) (ev env i) K
  | .index t x i => indexA P t (ev env x) (ev env i) K
  | .slice t x lo hi mx => sliceA P t (ev env x) (lo.map (ev env)) (hi.map (ev env)) (mx.map (ev env)) K
  | .convert s d x => convA P s d (ev env x) K
  | .makeFunc (.func f) first caps => chk (first.size = 0) (K (.fn f (caps.toList.map (ev env))))
  | .call c => (match c.callee with
    | .builtin .len => lenA P c.argTypes (c.args.toList.map (ev env)) K
    | _ => False)
  | _ => False
end Go.Sim
