/- The machine over abstract data, and that it is sound. -/
import Derived.Test.YtbaongomialaoaaGreatDoorCe
import Derived.LoopN
import Derived.Scope
import Derived.KernelRfl
import Derived.ChangeArms
import Derived.DataReads
import Derived.OpenShut
import Derived.Carry
import Derived.ChangeSame
import Derived.RowKit3
section
namespace Go.Arb
set_option linter.unusedVariables false
set_option linter.unusedSimpArgs false
open Go Go.Lib

/-! ### Equality, decided -/
noncomputable def dvB : DV → DV → Bool
  | .any, .any => true
  | .b x, .b y => x == y
  | .i k n, .i k' n' => decide (k = k') && decide (n = n')
  | .s l, .s m => decide (l = m)
  | .nilp, .nilp => true
  | .ptr x o, .ptr y p => Nat.beq x y && Nat.beq o p
  | .dp cs o, .dp ds p => dvBL cs ds && Nat.beq o p
  | .nilsl, .nilsl => true
  | .sl es, .sl fs => dvBLL es fs
  | .vw x o n c, .vw y p m d => Nat.beq x y && Nat.beq o p && Nat.beq n m && Nat.beq c d
  | .nilmap, .nilmap => true
  | .mp x, .mp y => Nat.beq x y
  | .agg cs, .agg ds => dvBL cs ds
  | .tup cs, .tup ds => dvBL cs ds
  | .fn (.func f) a c, .fn (.func g) b d => Nat.beq f g && dvBL a b && dvBL c d
  | .nilfn, .nilfn => true
  | .ifc t x, .ifc u y => Nat.beq t u && dvB x y
  | .nilif, .nilif => true
  | _, _ => false
where
  dvBL : List DV → List DV → Bool
    | [], [] => true
    | x :: l, y :: m => dvB x y && dvBL l m
    | _, _ => false
  dvBLL : List (List DV) → List (List DV) → Bool
    | [], [] => true
    | x :: l, y :: m => dvBL x y && dvBLL l m
    | _, _ => false

mutual
theorem dvB_eq : ∀ (x y : DV), dvB x y = true → x = y
  | x, y, h => by
    unfold dvB at h
    split at h
    · rfl
    · simp at h; rw [h]
    · simp at h; rw [h.1, h.2]
    · simp at h; rw [h]
    · rfl
    · simp at h; rw [h.1, h.2]
    · rename_i cs o ds p
      simp only [Bool.and_eq_true] at h; rw [dvBL_eq cs ds h.1, Nat.eq_of_beq_eq_true h.2]
    · rfl
    · rename_i es fs
      rw [dvBLL_eq es fs h]
    · simp at h; rw [h.1.1.1, h.1.1.2, h.1.2, h.2]
    · rfl
    · simp at h; rw [h]
    · rename_i cs ds
      rw [dvBL_eq cs ds h]
    · rename_i cs ds
      rw [dvBL_eq cs ds h]
    · rename_i f a c g b d
      simp only [Bool.and_eq_true] at h; rw [Nat.eq_of_beq_eq_true h.1.1, dvBL_eq a b h.1.2, dvBL_eq c d h.2]
    · rfl
    · rename_i t x u y
      simp only [Bool.and_eq_true] at h; rw [Nat.eq_of_beq_eq_true h.1, dvB_eq x y h.2]
    · rfl
    · simp at h
theorem dvBL_eq : ∀ (x y : List DV), dvB.dvBL x y = true → x = y
  | [], [], _ => rfl
  | x :: l, y :: m, h => by
    simp only [dvB.dvBL, Bool.and_eq_true] at h
    rw [dvB_eq x y h.1, dvBL_eq l m h.2]
  | [], _ :: _, h => by simp [dvB.dvBL] at h
  | _ :: _, [], h => by simp [dvB.dvBL] at h
theorem dvBLL_eq : ∀ (x y : List (List DV)), dvB.dvBLL x y = true → x = y
  | [], [], _ => rfl
  | x :: l, y :: m, h => by
    simp only [dvB.dvBLL, Bool.and_eq_true] at h
    rw [dvBL_eq x y h.1, dvBLL_eq l m h.2]
  | [], _ :: _, h => by simp [dvB.dvBLL] at h
  | _ :: _, [], h => by simp [dvB.dvBLL] at h
end

noncomputable def kvB : List (DV × DV) → List (DV × DV) → Bool
  | [], [] => true
  | x :: l, y :: m => dvB x.1 y.1 && dvB x.2 y.2 && kvB l m
  | _, _ => false
theorem kvB_eq : ∀ (x y : List (DV × DV)), kvB x y = true → x = y
  | [], [], _ => rfl
  | (a, b) :: l, (c, d) :: m, h => by
    simp only [kvB, Bool.and_eq_true] at h
    rw [dvB_eq a c h.1.1, dvB_eq b d h.1.2, kvB_eq l m h.2]
  | [], _ :: _, h => by simp [kvB] at h
  | _ :: _, [], h => by simp [kvB] at h
noncomputable def obB : AObj → AObj → Bool
  | .cells ds, .cells es => dvB.dvBL ds es
  | .arr E sz el c, .arr E' sz' el' c' => Nat.beq E E' && Nat.beq sz sz' && dvB.dvBLL el el' && Nat.beq c c'
  | .map k, .map l => kvB k l
  | _, _ => false
theorem obB_eq : ∀ (x y : AObj), obB x y = true → x = y := by
  intro x y h
  unfold obB at h
  split at h
  · rw [dvBL_eq _ _ h]
  · simp only [Bool.and_eq_true] at h; rw [Nat.eq_of_beq_eq_true h.1.1.1, Nat.eq_of_beq_eq_true h.1.1.2, dvBLL_eq _ _ h.1.2, Nat.eq_of_beq_eq_true h.2]
  · rw [kvB_eq _ _ h]
  · simp at h
noncomputable def trB {α : Type} (e : α → α → Bool) : Tr α → Tr α → Bool
  | .nil, .nil => true
  | .nd v l r, .nd w m s => (match v, w with | some x, some y => e x y | none, none => true | _, _ => false) && trB e l m && trB e r s
  | _, _ => false
theorem trB_eq {α : Type} {e : α → α → Bool} (he : ∀ x y, e x y = true → x = y) : ∀ (x y : Tr α), trB e x y = true → x = y
  | .nil, .nil, _ => rfl
  | .nd v l r, .nd w m s, h => by
    simp only [trB, Bool.and_eq_true] at h
    rw [trB_eq he l m h.1.2, trB_eq he r s h.2]
    have h1 := h.1.1
    split at h1
    · rw [he _ _ h1]
    · rfl
    · simp at h1
  | .nil, .nd _ _ _, h => by simp [trB] at h
  | .nd _ _ _, .nil, h => by simp [trB] at h
noncomputable def vhB (a b : VH) : Bool := Nat.beq a.nx b.nx && trB obB a.ob b.ob
theorem vhB_eq {a b : VH} (h : vhB a b = true) : a = b := by
  obtain ⟨n, t⟩ := a; obtain ⟨m, s⟩ := b
  simp only [vhB, Bool.and_eq_true] at h
  rw [Nat.eq_of_beq_eq_true h.1, trB_eq obB_eq _ _ h.2]

/-! ### The machine: settings -/
/-- How a region that draws its order is gone through: any: all orders; else one order, with classes (0: looks at nothing owned; 1: reads; 2: else). -/
structure Rg where
  any : Bool
  cls : List Nat
  ord : List Nat

structure Kf where
  own : Nat → Nat → Bool
  typ : Nat → Bool
  frz : Nat → Bool
  frzA : Nat → Bool
  reg : Nat → Nat → Option Rg
  orc : Nat → List DV → Option DV
  ext : Nat → Nat

noncomputable def vget (ρ : Tr DV) (t : Nat) : DV := match ρ.get t with | some d => d | none => .any
noncomputable def veval (n : Nat) (ρ : Tr DV) : Operand → DV
  | .tmp t => if t < n then vget ρ t else .any
  | .const v => ofVs v
  | .global _ => .any
  | .func f => .fn (.func f) [] []
noncomputable def vputE (ρ : Tr DV) : Option Nat → DV → Tr DV
  | none, _ => ρ
  | some t, d => ρ.set t (some d)
noncomputable def vwant (n : Nat) (ops : Array Oper) (ρ : Tr DV) (o : Oper) : Option Bool :=
  match o.guard with
  | none => some true
  | some (j, want) => match (ops[j]?).bind (·.dst) with
    | none => some false
    | some d => if d < n then match vget ρ d with
        | .b x => some (x == want)
        | .tup [] => some false
        | _ => none
      else none
def typOf (K : Kf) : Op → Bool
  | .alloc t => K.typ t
  | .box t _ => K.typ t
  | _ => false

abbrev CF := FuncId → List DV → VH → Option (DV × VH)

noncomputable def vact (P : Program) (K : Kf) (f n : Nat) (cf : CF) (o : Oper) (ρ : Tr DV) (h : VH) : Option (DV × VH) :=
  match o.op with
  | .call ⟨.value x, args, _⟩ => match veval n ρ x with
    | .fn (.func g) a c => cf g (a ++ args.toList.map (veval n ρ) ++ c) h
    | _ => none
  | op => vop P (K.own f (o.dst.getD 0)) (typOf K op) h (veval n ρ) op

noncomputable def vexec (P : Program) (K : Kf) (f n : Nat) (cf : CF) (ops : Array Oper) (o : Oper) (ρ : Tr DV) (h : VH) : Option (Tr DV × VH) :=
  match vwant n ops ρ o with
  | none => none
  | some false => some (vputE ρ o.dst (.tup []), h)
  | some true => match vact P K f n cf o ρ h with
    | some (d, h) => some (vputE ρ o.dst d, h)
    | none => none

noncomputable def vops (P : Program) (K : Kf) (f n : Nat) (cf : CF) (ops : Array Oper) : List Oper → Tr DV → VH → Option (Tr DV × VH)
  | [], ρ, h => some (ρ, h)
  | o :: rest, ρ, h => match vexec P K f n cf ops o ρ h with
    | some (ρ, h) => vops P K f n cf ops rest ρ h
    | none => none

/-- What looks at nothing owned. -/
noncomputable def vpv (P : Program) (K : Kf) (n : Nat) (o : Oper) (ρ : Tr DV) : Option DV :=
  match o.op with
  | .call ⟨.value x, args, _⟩ => match veval n ρ x with
    | .fn (.func g) a c => match K.orc g (a ++ args.toList.map (veval n ρ) ++ c) with
      | some d => if nbL (a ++ args.toList.map (veval n ρ) ++ c) = true ∧ nb d = true then some d else none
      | none => none
    | _ => none
  | op => vpure P (fun _ => none) (veval n ρ) op
noncomputable def vrv (P : Program) (n : Nat) (o : Oper) (ρ : Tr DV) (h : VH) : Option DV :=
  match o.op with
  | .call ⟨.value _, _, _⟩ => none
  | op => vpure P h.st (veval n ρ) op

def clsOf (l : List Nat) (k : Nat) : Cls := match l[k]? with
  | some 0 => .pure
  | some 1 => .read
  | _ => .write

def notT0 : DV → Bool
  | .tup [] => false
  | _ => true

noncomputable def vord (P : Program) (K : Kf) (f n : Nat) (cf : CF) (ops : Array Oper) (cls : List Nat) : List Nat → Tr DV → VH → Option (Tr DV × VH)
  | [], ρ, h => some (ρ, h)
  | k :: rest, ρ, h => match ops[k]? with
    | none => none
    | some o => match clsOf cls k with
      | .write => match vexec P K f n cf ops o ρ h with
        | some (ρ, h) => vord P K f n cf ops cls rest ρ h
        | none => none
      | .pure => match vwant n ops ρ o with
        | none => none
        | some false => vord P K f n cf ops cls rest (vputE ρ o.dst (.tup [])) h
        | some true => match vpv P K n o ρ with
          | some d => if notT0 d = true then vord P K f n cf ops cls rest (vputE ρ o.dst d) h else none
          | none => none
      | .read => match vwant n ops ρ o with
        | none => none
        | some false => vord P K f n cf ops cls rest (vputE ρ o.dst (.tup [])) h
        | some true => match vrv P n o ρ h with
          | some d => if notT0 d = true then vord P K f n cf ops cls rest (vputE ρ o.dst d) h else none
          | none => none

/-- In any order: new variables have the numbers that are kept for them. -/
noncomputable def vexecA (P : Program) (K : Kf) (f n : Nat) (cf : CF) (ops : Array Oper) (base k : Nat) (o : Oper) (ρ : Tr DV) (h : VH) : Option (Tr DV × VH) :=
  match o.guard, o.op with
  | none, .alloc t => match zeroC P t with
    | some zs => some (vputE ρ o.dst (.ptr (base + k) 0), h.upd (base + k) (.cells zs))
    | none => none
  | none, .makeMap _ none => some (vputE ρ o.dst (.mp (base + k)), h.upd (base + k) (.map []))
  | _, _ => vexec P K f n cf ops o ρ h

noncomputable def stB (a b : Option (Tr DV × VH)) : Bool := match a, b with
  | some (ρ, h), some (ρ', h') => trB dvB ρ ρ' && vhB h h'
  | _, _ => false

/-- The first operation of the class 0 among those that are ready, that may go first. -/
def pick0 (ops : Array Oper) (cls : List Nat) (listed : Array Bool) : List Nat → Option Nat
  | [] => none
  | k :: l => match clsOf cls k with
    | .pure => if Region.free .any ops listed k = true then some k else pick0 ops cls listed l
    | _ => pick0 ops cls listed l

/-- One operation, whatever its class. -/
noncomputable def vstepA (P : Program) (K : Kf) (f n : Nat) (cf : CF) (ops : Array Oper) (cls : List Nat) (base k : Nat) (ρ : Tr DV) (h : VH) : Option (Tr DV × VH) :=
  match ops[k]? with
  | none => none
  | some o => match clsOf cls k with
    | .pure => match vwant n ops ρ o with
      | none => none
      | some false => some (vputE ρ o.dst (.tup []), h)
      | some true => match vpv P K n o ρ with
        | some d => if notT0 d = true then some (vputE ρ o.dst d, h) else none
        | none => none
    | _ => vexecA P K f n cf ops base k o ρ h

noncomputable def vgo (P : Program) (K : Kf) (f n : Nat) (cf : CF) (ops : Array Oper) (cls : List Nat) (base : Nat) (next : Array Bool → Tr DV → VH → Option (Tr DV × VH)) (listed : Array Bool) (ρ : Tr DV) (h : VH) (k : Nat) : Option (Tr DV × VH) :=
  match vstepA P K f n cf ops cls base k ρ h with
  | some (ρ, h) => next (listed.setIfInBounds k true) ρ h
  | none => none
noncomputable def vall (s : Nat → Option (Tr DV × VH)) (r : Nat) (l : List Nat) : Option (Tr DV × VH) := if l.all (fun k => stB (s k) (s r)) = true then s r else none

noncomputable def vany (P : Program) (K : Kf) (f n : Nat) (cf : CF) (ops : Array Oper) (cls : List Nat) (base : Nat) : Nat → Array Bool → Tr DV → VH → Option (Tr DV × VH)
  | 0, listed, ρ, h => match Region.ready .any ops listed with
    | [] => some (ρ, h)
    | _ => none
  | fuel + 1, listed, ρ, h =>
    match Region.ready .any ops listed with
    | [] => some (ρ, h)
    | r :: rs => match pick0 ops cls listed (r :: rs) with
      | some k => vgo P K f n cf ops cls base (vany P K f n cf ops cls base fuel) listed ρ h k
      | none => vall (vgo P K f n cf ops cls base (vany P K f n cf ops cls base fuel) listed ρ h) r (r :: rs)

noncomputable def mkEnv : Nat → List DV → Tr DV → Tr DV
  | _, [], ρ => ρ
  | k, d :: r, ρ => mkEnv (Nat.succ k) r (ρ.set k (some d))

noncomputable def vres (P : Program) (n : Nat) (ρ : Tr DV) (h : VH) : List ResultVar → Option (List DV)
  | [] => some []
  | .tmp t :: r => match vres P n ρ h r with
    | some l => some (veval n ρ (.tmp t) :: l)
    | none => none
  | .cell b t :: r => match loadV P h.st t (veval n ρ (.tmp b)), vres P n ρ h r with
    | some d, some l => some (d :: l)
    | _, _ => none

/-- Nobody writes it any more. -/
noncomputable def vfrz1 (h : VH) (d : DV) : Option (DV × VH) :=
  match d with
  | .vw k 0 n c => match h.st k with
    | some (.arr E sz elems c') => if n ≤ elems.length ∧ c' = c ∧ nbLL (elems.take n) = true then some (.sl (elems.take n), h.del k) else none
    | _ => none
  | .vw _ _ _ _ => none
  | d => some (d, h)
noncomputable def vfrzL : List DV → VH → Option (List DV × VH)
  | [], h => some ([], h)
  | d :: l, h => match vfrz1 h d with
    | some (d, h) => match vfrzL l h with
      | some (l, h) => some (d :: l, h)
      | none => none
    | none => none
noncomputable def vfrzR (h : VH) (d : DV) : Option (DV × VH) :=
  match d with
  | .tup l => match vfrzL l h with
    | some (l, h) => some (.tup l, h)
    | none => none
  | .agg l => match vfrzL l h with
    | some (l, h) => some (.agg l, h)
    | none => none
  | d => vfrz1 h d

/-- The functions that are the model's. -/
noncomputable def vext (k : Nat) (ds : List DV) (h : VH) : Option (DV × VH) :=
  match k, ds with
  | 1, [d] => some (d, h)
  | 2, [.ptr b off, .i .i64 y] => match h.st b with
    | some (.cells cs) => match cs[off]? with
      | some (.i .i64 x) => some (.i .i64 (IntKind.i64.wrap (x + y)), h.upd b (.cells (cs.set off (.i .i64 (IntKind.i64.wrap (x + y))))))
      | _ => none
    | _ => none
  | 3, [.ptr b off] => match h.st b with
    | some (.cells cs) => match cs[off]? with
      | some (.i .u32 x) => some (.i .u32 x, h)
      | _ => none
    | _ => none
  | 4, [.ptr b off] => match h.st b with
    | some (.cells cs) => match cs[off]? with
      | some (.i .i64 x) => some (.i .i64 x, h)
      | _ => none
    | _ => none
  | _, _ => none

abbrev RF := Nat → Nat → Code → Tr DV → VH → Option (Exit × Tr DV × VH)

noncomputable def vbody (P : Program) (K : Kf) (run : RF) (f : FuncId) (ds : List DV) (h : VH) : Option (DV × VH) :=
  match P.funcs[f]? with
  | none => none
  | some fn => match fn.body with
    | none => none
    | some c => if ds.length ≤ fn.ntmps then match run f fn.ntmps c (mkEnv 0 ds .nil) h with
        | some (x, ρ, h) => match x with
          | .normal | .ret => match vres P fn.ntmps ρ h fn.results.toList with
            | some l => if K.frz f = true then vfrzR h (tupD l) else some (tupD l, h)
            | none => none
          | _ => none
        | none => none
      else none

/-- sync.Once's slow road: the lock, the function, the mark, the lock. -/
noncomputable def vonce2 (off : Nat) (b : Nat) : Option (DV × VH) → Option (DV × VH)
  | some (_, h) => match h.st b with
    | some (.cells cs) => match cs[off]?, cs[off + 1]? with
      | some (.i .u32 x), some (.i .i32 y) => if x = 0 ∧ y = 1 then some (.tup [], h.upd b (.cells ((cs.set off (.i .u32 1)).set (off + 1) (.i .i32 0)))) else none
      | _, _ => none
    | _ => none
  | none => none
noncomputable def vonce (P : Program) (K : Kf) (run : RF) (f : FuncId) (ds : List DV) (h : VH) : Option (DV × VH) :=
  match decide (K.ext f = 10), ds with
  | true, [.ptr b off, .fn (.func g) a c] => match h.st b with
    | some (.cells cs) => match cs[off]?, cs[off + 1]? with
      | some (.i .u32 x), some (.i .i32 y) => if x = 0 ∧ y = 0 then vonce2 off b (vbody P K run g (a ++ c) (h.upd b (.cells (cs.set (off + 1) (.i .i32 1))))) else none
      | _, _ => none
    | _ => none
  | _, _ => none

/-- slices.Collect over maps.Keys of a map of at most one key. -/
noncomputable def vcoll (K : Kf) (f : FuncId) (ds : List DV) (h : VH) : Option (DV × VH) :=
  match decide (K.ext f = 11), ds with
  | true, [.fn (.func g) [] [.ptr b 0]] => if K.ext g = 12 then match h.st b with
      | some (.cells [.mp m]) => match h.st m with
        | some (.map []) => some (.nilsl, h)
        | some (.map [(.i .i64 x, _)]) => if (Lit.int .i64 x).wf = true then some (.sl [[.i .i64 x]], h) else none
        | _ => none
      | _ => none
    else none
  | _, _ => none

noncomputable def vcall (P : Program) (K : Kf) (run : RF) (f : FuncId) (ds : List DV) (h : VH) : Option (DV × VH) :=
  match (if K.frzA f = true then vfrzL ds h else some (ds, h)) with
  | none => none
  | some (ds, h) => match K.orc f ds with
    | some d => if nbL ds = true ∧ nb d = true then some (d, h) else none
    | none => match vext (K.ext f) ds h with
      | some r => some r
      | none => match vonce P K run f ds h with
        | some r => some r
        | none => match vcoll K f ds h with
          | some r => some r
          | none => vbody P K run f ds h

noncomputable def vcode (P : Program) (K : Kf) : Nat → RF
  | 0, _, _, _, _, _ => none
  | fuel + 1, f, n, c, ρ, h =>
    match c with
    | .skip => some (.normal, ρ, h)
    | .label _ => some (.normal, ρ, h)
    | .ret => some (.ret, ρ, h)
    | .exit k => some (.exit k, ρ, h)
    | .region id ops drawn =>
      let cf : CF := fun g ds h => vcall P K (vcode P K fuel) g ds h
      match (match drawn with
        | false => vops P K f n cf ops ops.toList ρ h
        | true => match K.reg f id with
          | some rg => if rg.any = true then vany P K f n cf ops rg.cls h.nx ops.size (Array.replicate ops.size false) ρ ⟨h.nx + ops.size, h.ob⟩ else vord P K f n cf ops rg.cls rg.ord ρ h
          | none => none) with
      | some (ρ, h) => some (.normal, ρ, h)
      | none => none
    | .seq a b => match vcode P K fuel f n a ρ h with
      | some (.normal, ρ, h) => vcode P K fuel f n b ρ h
      | r => r
    | .cond c a b => match veval n ρ c with
      | .b true => vcode P K fuel f n a ρ h
      | .b false => vcode P K fuel f n b ρ h
      | _ => none
    | .block id a => match vcode P K fuel f n a ρ h with
      | some (.exit k, ρ, h) => if k = id then some (.normal, ρ, h) else some (.exit k, ρ, h)
      | r => r
    | .scope a => match vcode P K fuel f n a ρ h with
      | some (.goto _, _, _) => none
      | r => r
    | .loop a => match vcode P K fuel f n a ρ h with
      | some (.normal, ρ, h) => vcode P K fuel f n (.loop a) ρ h
      | r => r
    | _ => none
end Go.Arb
end

section
namespace Go.Arb
set_option linter.unusedVariables false
set_option linter.unusedSimpArgs false
open Go Go.Lib

/-! ### Guarded values -/
def conv : DV → DV
  | .opt true d => d
  | .opt false _ => .tup []
  | d => d

theorem R_conv {I w v d} (h : R I w v d) : R I w v (conv d) := by
  cases h with
  | optT v d h => exact h
  | optF d => exact .tup _ _ rfl (fun j v d h => by simp at h)
  | any v => exact .any v
  | b x => exact .b x
  | i k n => exact .i k n
  | s x l h => exact .s x l h
  | nilp => exact .nilp
  | ptr x off => exact .ptr x off
  | dp x o0 off cells cs E fz vals hI hb hc hr => exact .dp x o0 off cells cs E fz vals hI hb hc hr
  | nilsl => exact .nilsl
  | sl0 a c => exact .sl0 a c
  | sl x off n c sz elems cs E fz vals hI hb hn hcap hz hc hr hmx => exact .sl x off n c sz elems cs E fz vals hI hb hn hcap hz hc hr hmx
  | vw x off n c => exact .vw x off n c
  | nilmap => exact .nilmap
  | mp x => exact .mp x
  | agg vs ds hl hr => exact .agg vs ds hl hr
  | tup vs ds hl hr => exact .tup vs ds hl hr
  | fn f a c da dc ha hc hra hrc => exact .fn f a c da dc ha hc hra hrc
  | nilfn => exact .nilfn
  | ifc t v d h => exact .ifc t v d h
  | nilif => exact .nilif

theorem AOp.conv {C o} {ε : Operand → DV} {σ Q} (h : AOp C o (fun x => conv (ε x)) σ Q) : AOp C o ε σ Q := fun F w φ hr hS => h F w φ (fun x hx => R_conv (hr x hx)) hS

theorem SR_conv {θ d r} (h : SR θ d r) : SR θ d (conv r) := by
  cases h with
  | any r => exact .any _
  | imm d h =>
    have : Arb.conv d = d := by cases d <;> simp [nb] at h <;> rfl
    rw [this]; exact .imm _ h
  | ptr k off x e h => exact .ptr k off x e h
  | vw k off n c x e h => exact .vw k off n c x e h
  | mp k x e h => exact .mp k x e h
  | agg a b c d => exact .agg a b c d
  | tup a b c d => exact .tup a b c d
  | fn a b c d e f g h i => exact .fn a b c d e f g h i
  | ifc a b c d => exact .ifc a b c d

inductive SO (θ : Nm) : DV → DV → Prop where
  | pl (v r) (h : SR θ v r) : SO θ v r
  | tt (v e) (h : SR θ v e) (hv : notT0 v = true) : SO θ v (.opt true e)
  | ff : SO θ (.tup []) (.opt false (.b false))

theorem SO.conv {θ v r} (h : SO θ v r) : SR θ v (conv r) := by
  cases h with
  | pl _ _ h => exact SR_conv h
  | tt v e h hv => exact h
  | ff => exact .tup0
theorem SO.mono {θ θ' v r} (e : Ext θ θ') (h : SO θ v r) : SO θ' v r := by
  cases h with
  | pl _ _ h => exact .pl _ _ (h.mono e)
  | tt v e' h hv => exact .tt v e' (h.mono e) hv
  | ff => exact .ff

/-- Environments by names. -/
def ER (θ : Nm) (ρ : Tr DV) (ρr : Env) : Prop := ∀ t, SO θ (vget ρ t) (ρr t)
theorem ER.mono {θ θ' ρ ρr} (e : Ext θ θ') (h : ER θ ρ ρr) : ER θ' ρ ρr := fun t => (h t).mono e
theorem vget_put {ρ : Tr DV} {dst : Option Nat} {d : DV} {t : Nat} : vget (vputE ρ dst d) t = if dst = some t then d else vget ρ t := by
  cases dst with
  | none => simp [vputE]
  | some k =>
    simp only [vputE, vget, Tr.get_set]
    by_cases h : t = k
    · simp [h]
    · have : ¬ (some k = some t) := fun e => h (by simpa using e.symm)
      rw [if_neg h, if_neg this]
theorem ER.put {θ ρ ρr} (h : ER θ ρ ρr) {d d' : DV} (hd : SO θ d d') (dst : Option Nat) : ER θ (vputE ρ dst d) (upd ρr dst d') := fun t => by
  rw [vget_put]
  cases dst with
  | none => simp [upd]; exact h t
  | some k =>
    simp only [upd]
    by_cases e : t = k
    · subst e; simp; exact hd
    · have : ¬ (some k = some t) := fun e' => e (by simpa using e'.symm)
      rw [if_neg this, if_neg e]; exact h t
theorem veval_SO {θ ρ ρr n} (h : ER θ ρ ρr) (x : Operand) : SO θ (veval n ρ x) (ev n ρr x) := by
  cases x with
  | tmp t =>
    simp only [veval, ev]
    split
    · exact h t
    · exact .pl _ _ (.any _)
  | const v => exact .pl _ _ (SR_ofVs v)
  | global g => exact .pl _ _ (.any _)
  | func f => exact .pl _ _ (.imm _ rfl)
theorem veval_SR {θ ρ ρr n} (h : ER θ ρ ρr) (x : Operand) : SR θ (veval n ρ x) (conv (ev n ρr x)) := (veval_SO h x).conv

theorem vwant_sound {θ ρ ρr n ops o W} (h : ER θ ρ ρr) (hw : vwant n ops ρ o = some W) : awanted n ops ρr o = some W := by
  unfold vwant at hw
  unfold awanted
  cases hg : o.guard with
  | none => simp only [hg] at hw ⊢; exact hw
  | some p =>
    obtain ⟨j, want⟩ := p
    simp only [hg] at hw ⊢
    cases hd : (ops[j]?).bind (·.dst) with
    | none => simp only [hd] at hw ⊢; exact hw
    | some d =>
      simp only [hd] at hw ⊢
      split at hw
      · rename_i hdn
        rw [if_pos hdn]
        have hR := h d
        split at hw
        · rename_i x hx
          rw [hx] at hR
          simp at hw; subst hw
          generalize ρr d = r at hR
          cases hR with
          | pl _ _ hs => rw [hs.inv_b]; rfl
          | tt _ e hs hv => rw [hs.inv_b]; simp [guardW]
        · rename_i hx
          rw [hx] at hR
          simp at hw; subst hw
          generalize ρr d = r at hR
          cases hR with
          | pl _ _ hs => have := hs.eq_of_nb rfl; rw [this]; rfl
          | tt _ e hs hv => simp [notT0] at hv
          | ff => rfl
        · simp at hw
      · simp at hw

theorem vwant_guard {ρ n ops o} (hw : vwant n ops ρ o = some false) : ∃ g, o.guard = some g := by
  unfold vwant at hw
  cases hg : o.guard with
  | none => simp [hg] at hw
  | some g => exact ⟨g, rfl⟩

/-! ### The settings are right -/
def okReg (K : Kf) (f : Nat) : Code → Bool
  | .region id ops drawn => match drawn, K.reg f id with
    | true, some rg => rg.any || (decide (rg.ord.length = ops.size) && chk .any ops (clsOf rg.cls) rg.ord (Array.replicate ops.size false))
    | _, _ => true
  | .seq a b => okReg K f a && okReg K f b
  | .cond _ a b => okReg K f a && okReg K f b
  | .block _ a => okReg K f a
  | .loop a => okReg K f a
  | .scope a => okReg K f a
  | _ => true

/-- What a function like sync.Once's doSlow does. -/
def OnceOk (C : Cx) (f : FuncId) : Prop := ∀ (σ : Store) (b off g : Nat) (a c cs : List DV) (Q : DV → Store → Prop), σ b = some (.cells cs) → cs[off]? = some (.i .u32 0) → cs[off + 1]? = some (.i .i32 0) →
  acalls C g (a ++ c) (sset σ b (.cells (cs.set (off + 1) (.i .i32 1)))) (fun _ σ' => ∃ cs2, σ' b = some (.cells cs2) ∧ cs2[off]? = some (.i .u32 0) ∧ cs2[off + 1]? = some (.i .i32 1) ∧
    Q (.tup []) (sset σ' b (.cells ((cs2.set off (.i .u32 1)).set (off + 1) (.i .i32 0))))) →
  fcalls C f [.ptr b off, .fn (.func g) a c] σ Q

/-- What slices.Collect does over maps.Keys: at a map of at most one key. -/
def CollOk (C : Cx) (f g : FuncId) : Prop := ∀ (σ : Store) (b m : Nat) (kvs : List (DV × DV)) (Q : DV → Store → Prop), σ b = some (.cells [.mp m]) → σ m = some (.map kvs) →
  ((kvs = [] ∧ Q .nilsl σ) ∨ ∃ (x : Int) (d : DV), kvs = [(.i .i64 x, d)] ∧ (Lit.int .i64 x).wf = true ∧ Q (.sl [[.i .i64 x]]) σ) →
  fcalls C f [.fn (.func g) [] [.ptr b 0]] σ Q

structure KV (C : Cx) (K : Kf) : Prop where
  mixed : C.P.follows .mixedOrders = true
  names : ∀ (f : Nat) fn, C.P.funcs[f]? = some fn → (fn.name == "runtime.NumGoroutine") = false
  orc : ∀ f ds d, K.orc f ds = some d → nbL ds = true → nb d = true → ∀ σ, fcalls C f ds σ (fun d' σ' => d' = d ∧ σ' = σ)
  ext1 : ∀ f, K.ext f = 1 → Mdl C.P f Extern.AbiNoEscape.same
  ext2 : ∀ f, K.ext f = 2 → Mdl C.P f (Extern.Atomic.update (Op.intArith .add) .i64 true)
  ext3 : ∀ f, K.ext f = 3 → Mdl C.P f (Extern.Atomic.loadT (.int .u32))
  ext4 : ∀ f, K.ext f = 4 → Mdl C.P f (Extern.Atomic.loadT (.int .i64))
  once : ∀ f, K.ext f = 10 → OnceOk C f
  coll : ∀ f g, K.ext f = 11 → K.ext g = 12 → CollOk C f g
  reg : ∀ (f : Nat) fn c, C.P.funcs[f]? = some fn → fn.body = some c → okReg K f c = true

/-- What the machine says of a call is so. -/
def CallOk (C : Cx) (g : FuncId) (ds : List DV) (h : VH) (d : DV) (h' : VH) : Prop :=
  h.nx ≤ h'.nx ∧ ∀ θ σ ds', NRel θ h.nx h.st σ → SRL θ ds ds' → fcalls C g ds' σ fun d' σ' => ∃ θ', ExtN h.nx θ θ' ∧ SR θ' d d' ∧ NRel θ' h'.nx h'.st σ'

def CFok (C : Cx) (cf : CF) : Prop := ∀ g ds h d h', cf g ds h = some (d, h') → CallOk C g ds h d h'

theorem NV_nx {h h' : VH} {P own typ ε op d} (hd : vop P own typ h ε op = some (d, h')) : h.nx ≤ h'.nx := by
  unfold vop at hd
  split at hd
  · unfold vAlloc at hd
    split at hd
    · split at hd <;> simp at hd <;> obtain ⟨_, rfl⟩ := hd <;> exact Nat.le_succ _
    · simp at hd
  · unfold vBox at hd
    split at hd
    · split at hd
      · simp at hd; obtain ⟨_, rfl⟩ := hd; exact Nat.le_refl _
      · split at hd <;> simp at hd <;> obtain ⟨_, rfl⟩ := hd <;> exact Nat.le_succ _
    · simp at hd
  · unfold vBuildSlice at hd
    split at hd
    · simp at hd; obtain ⟨_, rfl⟩ := hd; exact Nat.le_refl _
    · split at hd
      · split at hd
        · simp only [Option.some.injEq, Prod.mk.injEq] at hd; obtain ⟨_, rfl⟩ := hd; exact Nat.le_succ _
        · simp at hd
      · simp at hd
  · unfold vStore at hd
    split at hd
    · split at hd
      · split at hd
        · split at hd
          · simp at hd; obtain ⟨_, rfl⟩ := hd; exact Nat.le_refl _
          · simp at hd
        · split at hd
          · split at hd
            · split at hd
              · simp at hd; obtain ⟨_, rfl⟩ := hd; exact Nat.le_refl _
              · simp at hd
            · simp at hd
          · simp at hd
        · simp at hd
      · simp at hd
    · simp at hd
  · simp at hd; obtain ⟨_, rfl⟩ := hd; exact Nat.le_succ _
  · unfold vMakeSlice at hd
    split at hd
    · split at hd
      · split at hd
        · simp at hd; obtain ⟨_, rfl⟩ := hd; exact Nat.le_succ _
        · simp at hd
      · simp at hd
    · simp at hd
  all_goals try (
    unfold vMapUpd at hd
    split at hd
    · split at hd
      · split at hd
        · split at hd
          · simp at hd; obtain ⟨_, rfl⟩ := hd; exact Nat.le_refl _
          · simp at hd
        · simp at hd
      · simp at hd
    · simp at hd)
  · unfold vAppend at hd
    split at hd
    · split at hd
      · split at hd
        · simp at hd; obtain ⟨_, rfl⟩ := hd; exact Nat.le_succ _
        · simp at hd
      · simp at hd
    · split at hd
      · split at hd
        · split at hd
          · simp at hd; obtain ⟨_, rfl⟩ := hd; exact Nat.le_succ _
          · simp at hd
        · split at hd
          · split at hd
            · simp at hd; obtain ⟨_, rfl⟩ := hd; exact Nat.le_succ _
            · simp at hd
          · simp at hd
        · simp at hd
      · simp at hd
    · split at hd
      · split at hd
        · split at hd
          · simp at hd; obtain ⟨_, rfl⟩ := hd; exact Nat.le_refl _
          · split at hd
            · split at hd
              · simp at hd; obtain ⟨_, rfl⟩ := hd; exact Nat.le_refl _
              · simp at hd
            · simp at hd
          · simp at hd
        · split at hd
          · split at hd
            · split at hd
              · simp at hd; obtain ⟨_, rfl⟩ := hd; exact Nat.le_succ _
              · simp at hd
            · split at hd
              · split at hd
                · split at hd
                  · simp only [Option.some.injEq, Prod.mk.injEq] at hd; obtain ⟨_, rfl⟩ := hd; exact Nat.le_refl _
                  · split at hd
                    · simp only [Option.some.injEq, Prod.mk.injEq] at hd; obtain ⟨_, rfl⟩ := hd; exact Nat.le_succ _
                    · simp at hd
                · simp at hd
              · simp at hd
            · simp at hd
          · simp at hd
        · simp at hd
      · simp at hd
    · simp at hd
  · unfold vClear at hd
    split at hd
    · split at hd
      · simp at hd; obtain ⟨_, rfl⟩ := hd; exact Nat.le_refl _
      · simp at hd
    · split at hd
      · simp at hd; obtain ⟨_, rfl⟩ := hd; exact Nat.le_refl _
      · simp at hd
    · split at hd
      · simp at hd; obtain ⟨_, rfl⟩ := hd; exact Nat.le_refl _
      · simp at hd
    · split at hd
      · simp at hd; obtain ⟨_, rfl⟩ := hd; exact Nat.le_refl _
      · simp at hd
    · split at hd
      · split at hd
        · split at hd
          · simp only [Option.some.injEq, Prod.mk.injEq] at hd; obtain ⟨_, rfl⟩ := hd; exact Nat.le_refl _
          · simp at hd
        · simp at hd
      · simp at hd
    · simp at hd
  · unfold vDelete at hd
    split at hd
    · split at hd
      · split at hd
        · split at hd
          · simp at hd; obtain ⟨_, rfl⟩ := hd; exact Nat.le_refl _
          · simp at hd
        · simp at hd
      · simp at hd
    · simp at hd
  · unfold vUStr at hd
    split at hd
    · simp at hd; obtain ⟨_, rfl⟩ := hd; exact Nat.le_refl _
    · simp at hd; obtain ⟨_, rfl⟩ := hd; exact Nat.le_refl _
    · split at hd
      · split at hd
        · split at hd
          · simp at hd; obtain ⟨_, rfl⟩ := hd; exact Nat.le_refl _
          · simp at hd
        · simp at hd
      · simp at hd
    · simp at hd
  · split at hd
    · simp at hd; obtain ⟨_, rfl⟩ := hd; exact Nat.le_refl _
    · simp at hd

section
variable {C : Cx} {K : Kf} {f n : Nat} {cf : CF} {ops : Array Oper}

theorem vact_sound (hcf : CFok C cf) {o : Oper} {ρ : Tr DV} {h : VH} {d : DV} {h' : VH} (hd : vact C.P K f n cf o ρ h = some (d, h')) : h.nx ≤ h'.nx ∧
    ∀ θ σ ρr, ER θ ρ ρr → NRel θ h.nx h.st σ → AOp C o (ev n ρr) σ fun d' σ' => ∃ θ', ExtN h.nx θ θ' ∧ SR θ' d d' ∧ NRel θ' h'.nx h'.st σ' := by
  unfold vact at hd
  split at hd
  · rename_i x args tys ho
    split at hd
    · rename_i g a c hx
      obtain ⟨h1, h2⟩ := hcf _ _ _ _ _ hd
      refine ⟨h1, fun θ σ ρr hE r => AOp.conv ?_⟩
      have hxs := veval_SR (n := n) hE x
      rw [hx] at hxs
      obtain ⟨a', c', he, ha, hc⟩ := hxs.inv_fn
      exact AOp_callF ho he (h2 θ σ _ r ((ha.append (SRL.map _ fun y _ => veval_SR hE y)).append hc))
    · simp at hd
  · refine ⟨NV_nx hd, fun θ σ ρr hE r => AOp.conv ?_⟩
    exact vop_sound hd θ σ _ r fun y _ => veval_SR hE y

theorem vexec_step (hcf : CFok C cf) {o : Oper} {rest : List Oper} {ρ ρ' : Tr DV} {h h' : VH} (hd : vexec C.P K f n cf ops o ρ h = some (ρ', h')) : h.nx ≤ h'.nx ∧
    ∀ θ σ ρr {Q : Exit → Env → Store → Prop}, ER θ ρ ρr → NRel θ h.nx h.st σ → (∀ θ' ρr' σ', ExtN h.nx θ θ' → ER θ' ρ' ρr' → NRel θ' h'.nx h'.st σ' → awpL C n ops rest Q ρr' σ') → awpL C n ops (o :: rest) Q ρr σ := by
  unfold vexec at hd
  split at hd
  · simp at hd
  · rename_i hw
    simp at hd; obtain ⟨rfl, rfl⟩ := hd
    exact ⟨Nat.le_refl _, fun θ σ ρr Q hE r k => awpL_skip (vwant_sound hE hw) (k θ _ _ (.refl _) (hE.put (.pl _ _ .tup0) _) r)⟩
  · rename_i hw
    split at hd
    · rename_i d h1 ha
      simp at hd; obtain ⟨rfl, rfl⟩ := hd
      obtain ⟨h2, h3⟩ := vact_sound hcf ha
      refine ⟨h2, fun θ σ ρr Q hE r k => awpL_op (vwant_sound hE hw) ((h3 θ σ ρr hE r).mono fun d' σ' ⟨θ', he, hs, hr⟩ => ?_)⟩
      exact k θ' _ _ he ((hE.mono (he.ext r)).put (.pl _ _ hs) _) hr
    · simp at hd

theorem vops_sound (hcf : CFok C cf) : ∀ {l : List Oper} {ρ ρ' : Tr DV} {h h' : VH}, vops C.P K f n cf ops l ρ h = some (ρ', h') → h.nx ≤ h'.nx ∧
    ∀ θ σ ρr {Q : Exit → Env → Store → Prop}, ER θ ρ ρr → NRel θ h.nx h.st σ → (∀ θ' ρr' σ', ExtN h.nx θ θ' → ER θ' ρ' ρr' → NRel θ' h'.nx h'.st σ' → Q .normal ρr' σ') → awpL C n ops l Q ρr σ := by
  intro l
  induction l with
  | nil =>
    intro ρ ρ' h h' hd
    simp [vops] at hd; obtain ⟨rfl, rfl⟩ := hd
    exact ⟨Nat.le_refl _, fun θ σ ρr Q hE r k => awpL_nil (k θ _ _ (.refl _) hE r)⟩
  | cons o rest ih =>
    intro ρ ρ' h h' hd
    simp only [vops] at hd
    split at hd
    · rename_i ρ1 h1 he
      obtain ⟨g1, g2⟩ := vexec_step (rest := rest) hcf he
      obtain ⟨g3, g4⟩ := ih hd
      refine ⟨Nat.le_trans g1 g3, fun θ σ ρr Q hE r k => g2 θ σ ρr hE r fun θ1 ρr1 σ1 e1 hE1 r1 => g4 θ1 σ1 ρr1 hE1 r1 fun θ2 ρr2 σ2 e2 hE2 r2 => k θ2 _ _ (e1.trans e2 g1) hE2 r2⟩
    · simp at hd
end
end Go.Arb
end

section
namespace Go.Arb
set_option linter.unusedVariables false
set_option linter.unusedSimpArgs false
open Go Go.Lib

/-- What holds with nothing owned holds whatever is owned. -/
theorem Yields_none {C o ε d} (h : Yields C o ε (fun _ => none) d) (σ : Store) : Yields C o ε σ d := by
  intro F w φ hr hS
  have ho : ∀ x, own (own F σ) (fun _ => none) x ↔ own F σ x := fun x => ⟨fun h => h.elim id (fun h => absurd rfl h), .inl⟩
  have hS' : Sim C (own F σ) (fun _ => none) w := ⟨fun x hx => ⟨by
      rcases hx with hx | hx
      · exact (hS.fr x hx).1
      · obtain ⟨o, ho⟩ := Option.ne_none_iff_exists'.1 hx
        exact (hS.ob x o ho).lt, rfl⟩, fun x o ho => by simp at ho, fun x o hx => ⟨(hS.gl x o hx).1, fun h => (hS.gl x o hx).2 ((ho x).1 h)⟩⟩
  have hfun : own (own F σ) (fun _ => none) = own F σ := by funext x; exact propext (ho x)
  refine (h (own F σ) w φ (fun x hx => by rw [hfun]; exact hr x hx) hS').mono ?_
  rintro v w' ⟨d', σ', hv, hS2, hst, rfl, rfl⟩
  rw [hfun] at hv
  have hk : ∀ x, x < w.heap.size → w'.heap[x]? = w.heap[x]? := fun x hx => (hst.keep x hx rfl).1
  refine ⟨_, σ, hv, ⟨fun x hx => ?_, fun x o hx => ?_, fun x o hx => ?_⟩, ⟨hst.os, hst.tape, hst.output, hst.size, fun x hx h0 => ⟨hk x hx, h0⟩⟩, rfl, rfl⟩
  · have := hS.fr x hx
    exact ⟨Nat.lt_of_lt_of_le this.1 hst.size, this.2⟩
  · exact (hS.ob x o hx).mono (fun y hy hlt => ⟨hk y hlt, hy⟩) (hk x (hS.ob x o hx).lt)
  · exact ⟨(hk x (heap_lt (hS.gl x o hx).1)).trans (hS.gl x o hx).1, (hS.gl x o hx).2⟩

theorem Yields.conv {C o} {ε : Operand → DV} {σ d} (h : Yields C o (fun x => Arb.conv (ε x)) σ d) : Yields C o ε σ d := AOp.conv h

section
variable {C : Cx} {K : Kf} {f n : Nat} {cf : CF} {ops : Array Oper}

theorem NRel.zero {θ nx h σ} (r : NRel θ nx h σ) : NRel θ nx (fun _ => none) (fun _ => none) := ⟨r.dom, fun k o hk => by simp at hk, fun k k' o o' x e e' h1 => by simp at h1⟩

theorem vpv_sound (hK : KV C K) {o : Oper} {ρ : Tr DV} {d : DV} (hd : vpv C.P K n o ρ = some d) {θ nx h σ ρr} (hE : ER θ ρ ρr) (r : NRel θ nx h σ) : ∃ d', SR θ d d' ∧ ∀ σ, Yields C o (ev n ρr) σ d' := by
  unfold vpv at hd
  split at hd
  · rename_i x args tys ho
    split at hd
    · rename_i g a c hx
      split at hd
      · rename_i d1 hq
        split at hd
        · rename_i hc
          simp at hd; subst hd
          refine ⟨d1, .imm _ hc.2, fun σ => Yields.conv ?_⟩
          have hxs := veval_SR (n := n) hE x
          rw [hx] at hxs
          obtain ⟨a', c', he, ha, hc'⟩ := hxs.inv_fn
          have hargs : SRL θ (a ++ args.toList.map (veval n ρ) ++ c) (a' ++ args.toList.map (fun x => Arb.conv (ev n ρr x)) ++ c') := (ha.append (SRL.map _ fun y _ => veval_SR hE y)).append hc'
          refine AOp_callF ho he ?_
          rw [hargs.eq_of_nb hc.1]
          exact hK.orc _ _ _ hq hc.1 hc.2 σ
        · simp at hd
      · simp at hd
    · simp at hd
  · obtain ⟨d', h1, h2⟩ := vpure_sound (o := o) (ε' := fun x => Arb.conv (ev n ρr x)) r.zero (fun y _ => veval_SR hE y) hd
    exact ⟨d', h1, fun σ => Yields.conv (Yields_none h2 σ)⟩

theorem vrv_sound {o : Oper} {ρ : Tr DV} {h : VH} {d : DV} (hd : vrv C.P n o ρ h = some d) {θ σ ρr} (hE : ER θ ρ ρr) (r : NRel θ h.nx h.st σ) : ∃ d', SR θ d d' ∧ Yields C o (ev n ρr) σ d' := by
  unfold vrv at hd
  split at hd
  · simp at hd
  · obtain ⟨d', h1, h2⟩ := vpure_sound (o := o) (ε' := fun x => Arb.conv (ev n ρr x)) r (fun y _ => veval_SR hE y) hd
    exact ⟨d', h1, Yields.conv h2⟩

theorem SO_wrap {θ d d'} (g : Option (Nat × Bool)) (h : SR θ d d') (hv : notT0 d = true) : SO θ d (wrapW g true d') := by
  unfold wrapW
  split
  · exact .pl _ _ h
  · exact .tt _ _ h hv

theorem PV_true (hK : KV C K) {o : Oper} {ρ : Tr DV} {d : DV} (hw : vwant n ops ρ o = some true) (hd : vpv C.P K n o ρ = some d) (hv : notT0 d = true) {θ nx h σ ρr} (hE : ER θ ρ ρr) (r : NRel θ nx h σ) : ∃ d', PV C n ops o ρr d' ∧ SO θ d d' := by
  obtain ⟨d', h1, h2⟩ := vpv_sound hK hd hE r
  exact ⟨_, ⟨true, d', vwant_sound hE hw, fun _ => h2, rfl⟩, SO_wrap o.guard h1 hv⟩
theorem PV_false {o : Oper} {ρ : Tr DV} (hw : vwant n ops ρ o = some false) {θ ρr} (hE : ER θ ρ ρr) : ∃ d', PV C n ops o ρr d' ∧ SO θ (.tup []) d' := by
  obtain ⟨g, hg⟩ := vwant_guard hw
  refine ⟨_, ⟨false, .b false, vwant_sound hE hw, fun h => by simp at h, rfl⟩, ?_⟩
  rw [hg]; exact .ff
theorem RV_true {o : Oper} {ρ : Tr DV} {h : VH} {d : DV} (hw : vwant n ops ρ o = some true) (hd : vrv C.P n o ρ h = some d) (hv : notT0 d = true) {θ σ ρr} (hE : ER θ ρ ρr) (r : NRel θ h.nx h.st σ) : ∃ d', RV C n ops o ρr σ d' ∧ SO θ d d' := by
  obtain ⟨d', h1, h2⟩ := vrv_sound hd hE r
  exact ⟨_, ⟨true, d', vwant_sound hE hw, fun _ => h2, rfl⟩, SO_wrap o.guard h1 hv⟩

theorem vexec_op (hcf : CFok C cf) {o : Oper} {ρ ρ' : Tr DV} {h h' : VH} (hd : vexec C.P K f n cf ops o ρ h = some (ρ', h')) : h.nx ≤ h'.nx ∧
    ∀ θ σ ρr {Q : Env → Store → Prop}, ER θ ρ ρr → NRel θ h.nx h.st σ → (∀ θ' ρr' σ', ExtN h.nx θ θ' → ER θ' ρ' ρr' → NRel θ' h'.nx h'.st σ' → Q ρr' σ') →
      ∃ W, awanted n ops ρr o = some W ∧ (W = true → AOp C o (ev n ρr) σ (fun d σ' => Q (upd ρr o.dst d) σ')) ∧ (W = false → Q (upd ρr o.dst (.tup [])) σ) := by
  unfold vexec at hd
  split at hd
  · simp at hd
  · rename_i hw
    simp at hd; obtain ⟨rfl, rfl⟩ := hd
    exact ⟨Nat.le_refl _, fun θ σ ρr Q hE r k => ⟨false, vwant_sound hE hw, fun h => by simp at h, fun _ => k θ _ _ (.refl _) (hE.put (.pl _ _ .tup0) _) r⟩⟩
  · rename_i hw
    split at hd
    · rename_i d h1 ha
      simp at hd; obtain ⟨rfl, rfl⟩ := hd
      obtain ⟨h2, h3⟩ := vact_sound hcf ha
      refine ⟨h2, fun θ σ ρr Q hE r k => ⟨true, vwant_sound hE hw, fun _ => (h3 θ σ ρr hE r).mono fun d' σ' ⟨θ', he, hs, hr⟩ => ?_, fun h => by simp at h⟩⟩
      exact k θ' _ _ he ((hE.mono (he.ext r)).put (.pl _ _ hs) _) hr
    · simp at hd

theorem vord_sound (hK : KV C K) (hcf : CFok C cf) {cls : List Nat} : ∀ {l : List Nat} {ρ ρ' : Tr DV} {h h' : VH}, vord C.P K f n cf ops cls l ρ h = some (ρ', h') → h.nx ≤ h'.nx ∧
    ∀ θ σ ρr {Q : Env → Store → Prop}, ER θ ρ ρr → NRel θ h.nx h.st σ → (∀ θ' ρr' σ', ExtN h.nx θ θ' → ER θ' ρ' ρr' → NRel θ' h'.nx h'.st σ' → Q ρr' σ') → ow C n ops (clsOf cls) Q l ρr σ := by
  intro l
  induction l with
  | nil =>
    intro ρ ρ' h h' hd
    simp [vord] at hd; obtain ⟨rfl, rfl⟩ := hd
    exact ⟨Nat.le_refl _, fun θ σ ρr Q hE r k => k θ _ _ (.refl _) hE r⟩
  | cons j rest ih =>
    intro ρ ρ' h h' hd
    simp only [vord] at hd
    split at hd
    · simp at hd
    · rename_i o ho
      split at hd
      · rename_i hc
        split at hd
        · rename_i ρ1 h1 he
          obtain ⟨g1, g2⟩ := vexec_op hcf he
          obtain ⟨g3, g4⟩ := ih hd
          refine ⟨Nat.le_trans g1 g3, fun θ σ ρr Q hE r k => ⟨o, ho, ?_⟩⟩
          rw [hc]
          exact g2 θ σ ρr hE r fun θ1 ρr1 σ1 e1 hE1 r1 => g4 θ1 σ1 ρr1 hE1 r1 fun θ2 ρr2 σ2 e2 hE2 r2 => k θ2 _ _ (e1.trans e2 g1) hE2 r2
        · simp at hd
      · rename_i hc
        split at hd
        · simp at hd
        · rename_i hw
          obtain ⟨g3, g4⟩ := ih hd
          refine ⟨g3, fun θ σ ρr Q hE r k => ⟨o, ho, ?_⟩⟩
          rw [hc]
          obtain ⟨d', h1, h2⟩ := PV_false (C := C) hw hE
          exact ⟨d', h1, g4 θ σ _ (hE.put h2 _) r k⟩
        · rename_i hw
          split at hd
          · rename_i d hp
            split at hd
            · rename_i hv
              obtain ⟨g3, g4⟩ := ih hd
              refine ⟨g3, fun θ σ ρr Q hE r k => ⟨o, ho, ?_⟩⟩
              rw [hc]
              obtain ⟨d', h1, h2⟩ := PV_true hK hw hp hv hE r
              exact ⟨d', h1, g4 θ σ _ (hE.put h2 _) r k⟩
            · simp at hd
          · simp at hd
      · rename_i hc
        split at hd
        · simp at hd
        · rename_i hw
          obtain ⟨g3, g4⟩ := ih hd
          refine ⟨g3, fun θ σ ρr Q hE r k => ⟨o, ho, ?_⟩⟩
          rw [hc]
          obtain ⟨d', h1, h2⟩ := PV_false (C := C) hw hE
          exact ⟨d', h1.rv σ, g4 θ σ _ (hE.put h2 _) r k⟩
        · rename_i hw
          split at hd
          · rename_i d hp
            split at hd
            · rename_i hv
              obtain ⟨g3, g4⟩ := ih hd
              refine ⟨g3, fun θ σ ρr Q hE r k => ⟨o, ho, ?_⟩⟩
              rw [hc]
              obtain ⟨d', h1, h2⟩ := RV_true hw hp hv hE r
              exact ⟨d', h1, g4 θ σ _ (hE.put h2 _) r k⟩
            · simp at hd
          · simp at hd

/-! ### All orders -/
theorem NRel.newAt {θ nx h σ} (r : NRel θ nx h σ) {j b e : Nat} {o o' : AObj} (hj : θ j = none) (hlt : j < nx) (hb : σ b = none) (ho : OR θ e o o') :
    NRel (nput θ j (b, e)) nx (sset h j o) (sset σ b o') := by
  have hx : Ext θ (nput θ j (b, e)) := fun k q hk => by
    unfold nput
    rw [if_neg (fun e => by rw [e, hj] at hk; simp at hk)]
    exact hk
  refine ⟨fun k p hk => ?_, fun k o1 hk => ?_, fun k k' o1 o1' x e1 e1' h1 h2 h3 h4 => ?_⟩
  · unfold nput at hk
    split at hk
    · omega
    · exact r.dom k p hk
  · unfold sset at hk
    split at hk
    · rename_i hkn; subst hkn
      cases hk
      exact ⟨b, e, o', nput_same, sset_same, ho.mono hx⟩
    · obtain ⟨x, e1, o1', h1, h2, h3⟩ := r.ob k o1 hk
      exact ⟨x, e1, o1', hx _ _ h1, by rw [sset_ne (by intro hxb; rw [hxb, hb] at h2; simp at h2)]; exact h2, h3.mono hx⟩
  · unfold sset at h1 h2
    unfold nput at h3 h4
    by_cases c1 : k = j
    · by_cases c2 : k' = j
      · rw [c1, c2]
      · rw [if_pos c1] at h3; rw [if_neg c2] at h4 h2
        cases h3
        obtain ⟨x', e2, o2, g1, g2, g3⟩ := r.ob k' _ h2
        rw [h4] at g1; cases g1
        rw [hb] at g2; simp at g2
    · rw [if_neg c1] at h3 h1
      by_cases c2 : k' = j
      · rw [if_pos c2] at h4
        cases h4
        obtain ⟨x', e2, o2, g1, g2, g3⟩ := r.ob k _ h1
        rw [h3] at g1; cases g1
        rw [hb] at g2; simp at g2
      · rw [if_neg c2] at h4 h2
        exact r.inj k k' _ _ _ _ _ h1 h2 h3 h4

def cls2 (cls : List Nat) (k : Nat) : Cls := match clsOf cls k with
  | .pure => .pure
  | _ => .write

/-- Kept numbers stand for nothing yet. -/
def Kept (θ : Nm) (base : Nat) (ops : Array Oper) (listed : Array Bool) : Prop := ∀ k, k < ops.size → listed.getD k true = false → θ (base + k) = none

theorem vexecA_op (hcf : CFok C cf) {base k : Nat} {o : Oper} {ρ ρ' : Tr DV} {h h' : VH} (hk : k < ops.size) (hb : base + ops.size ≤ h.nx) (hd : vexecA C.P K f n cf ops base k o ρ h = some (ρ', h')) : h.nx ≤ h'.nx ∧
    ∀ θ σ ρr {Q : Env → Store → Prop}, ER θ ρ ρr → NRel θ h.nx h.st σ → θ (base + k) = none → (∀ θ' ρr' σ', (∀ j, j < h.nx → j ≠ base + k → θ' j = θ j) → ER θ' ρ' ρr' → NRel θ' h'.nx h'.st σ' → Q ρr' σ') →
      ∃ W, awanted n ops ρr o = some W ∧ (W = true → AOp C o (ev n ρr) σ (fun d σ' => Q (upd ρr o.dst d) σ')) ∧ (W = false → Q (upd ρr o.dst (.tup [])) σ) := by
  have hne : ∀ {θ : Nm} {p : Nat × Nat} (j : Nat), j < h.nx → j ≠ base + k → nput θ (base + k) p j = θ j := fun j _ hj => by unfold nput; rw [if_neg hj]
  have hext : ∀ {θ : Nm} {p : Nat × Nat}, θ (base + k) = none → Ext θ (nput θ (base + k) p) := fun hz j q hj => by
    unfold nput; rw [if_neg (fun e => by rw [e, hz] at hj; simp at hj)]; exact hj
  unfold vexecA at hd
  split at hd
  · rename_i t hg ho
    split at hd
    · rename_i zs hz
      simp at hd; obtain ⟨rfl, rfl⟩ := hd
      refine ⟨Nat.le_refl _, fun θ σ ρr Q hE r h0 k' => ⟨true, by simp [awanted, hg], fun _ => AOp_alloc ho hz fun b hb' => ?_, fun h => by simp at h⟩⟩
      refine k' (nput θ (base + k) (b, 0)) _ _ hne ((hE.mono (hext h0)).put (.pl _ _ (.ptr _ _ _ _ nput_same)) _) ?_
      rw [VH.st_upd]
      exact r.newAt h0 (by simp only [VH.upd] at *; omega) hb' (.cells _ _ (SRL_zeroC hz))
    · simp at hd
  · rename_i t hg ho
    simp at hd; obtain ⟨rfl, rfl⟩ := hd
    refine ⟨Nat.le_refl _, fun θ σ ρr Q hE r h0 k' => ⟨true, by simp [awanted, hg], fun _ => AOp_makeMap ho fun b hb' => ?_, fun h => by simp at h⟩⟩
    refine k' (nput θ (base + k) (b, 0)) _ _ hne ((hE.mono (hext h0)).put (.pl _ _ (.mp _ _ _ nput_same)) _) ?_
    rw [VH.st_upd]
    exact r.newAt h0 (by simp only [VH.upd] at *; omega) hb' (.map _ _ rfl fun j p p' h => by simp at h)
  · obtain ⟨g1, g2⟩ := vexec_op hcf hd
    exact ⟨g1, fun θ σ ρr Q hE r h0 k' => g2 θ σ ρr hE r fun θ' ρr' σ' e hE' r' => k' θ' ρr' σ' (fun j hj _ => e j hj) hE' r'⟩

theorem vstepA_op (hK : KV C K) (hcf : CFok C cf) {cls : List Nat} {base k : Nat} {ρ ρ' : Tr DV} {h h' : VH} (hb : base + ops.size ≤ h.nx) (hd : vstepA C.P K f n cf ops cls base k ρ h = some (ρ', h')) : h.nx ≤ h'.nx ∧ ∃ o, ops[k]? = some o ∧
    ∀ θ σ ρr {Q : Env → Store → Prop}, ER θ ρ ρr → NRel θ h.nx h.st σ → θ (base + k) = none → (∀ θ' ρr' σ', (∀ j, j < h.nx → j ≠ base + k → θ' j = θ j) → ER θ' ρ' ρr' → NRel θ' h'.nx h'.st σ' → Q ρr' σ') → aOp C n ops (cls2 cls k) o Q ρr σ := by
  unfold vstepA at hd
  split at hd
  · simp at hd
  · rename_i o ho
    have hk : k < ops.size := (Array.getElem?_eq_some_iff.1 ho).1
    split at hd
    · rename_i hc
      split at hd
      · simp at hd
      · rename_i hw
        simp at hd; obtain ⟨rfl, rfl⟩ := hd
        refine ⟨Nat.le_refl _, o, ho, fun θ σ ρr Q hE r h0 k' => ?_⟩
        unfold cls2; rw [hc]
        obtain ⟨d', h1, h2⟩ := PV_false (C := C) hw hE
        exact ⟨d', h1, k' θ _ _ (fun _ _ _ => rfl) (hE.put h2 _) r⟩
      · rename_i hw
        split at hd
        · rename_i d hp
          split at hd
          · rename_i hv
            simp at hd; obtain ⟨rfl, rfl⟩ := hd
            refine ⟨Nat.le_refl _, o, ho, fun θ σ ρr Q hE r h0 k' => ?_⟩
            unfold cls2; rw [hc]
            obtain ⟨d', h1, h2⟩ := PV_true hK hw hp hv hE r
            exact ⟨d', h1, k' θ _ _ (fun _ _ _ => rfl) (hE.put h2 _) r⟩
          · simp at hd
        · simp at hd
    · rename_i hc
      obtain ⟨g1, g2⟩ := vexecA_op hcf hk hb hd
      refine ⟨g1, o, ho, fun θ σ ρr Q hE r h0 k' => ?_⟩
      have : cls2 cls k = .write := by
        unfold cls2
        split
        · rename_i h; exact absurd h hc
        · rfl
      rw [this]
      exact g2 θ σ ρr hE r h0 k'

theorem pick0_spec {cls : List Nat} {listed : Array Bool} : ∀ {l : List Nat} {k : Nat}, pick0 ops cls listed l = some k → k ∈ l ∧ clsOf cls k = .pure ∧ Region.free .any ops listed k = true := by
  intro l
  induction l with
  | nil => intro k h; simp [pick0] at h
  | cons a l ih =>
    intro k h
    simp only [pick0] at h
    split at h
    · rename_i hc
      split at h
      · rename_i hf; simp at h; subst h; exact ⟨by simp, hc, hf⟩
      · have := ih h; exact ⟨by simp [this.1], this.2⟩
    · have := ih h; exact ⟨by simp [this.1], this.2⟩

theorem stB_eq {a b : Option (Tr DV × VH)} (h : stB a b = true) : a = b := by
  unfold stB at h
  split at h
  · rename_i ρ h1 ρ' h2
    simp only [Bool.and_eq_true] at h
    rw [trB_eq dvB_eq _ _ h.1, vhB_eq h.2]
  · simp at h

theorem getD_set {listed : Array Bool} {k j : Nat} (h : (listed.setIfInBounds k true).getD j true = false) : listed.getD j true = false ∧ (j = k → False) := by
  by_cases hjk : k = j
  · subst hjk
    simp only [Array.getD_eq_getD_getElem?, Array.getElem?_setIfInBounds] at h
    simp at h
    split at h <;> simp at h
  · rw [getD_set_ne true hjk] at h
    exact ⟨h, fun e => hjk e.symm⟩

theorem vany_sound (hK : KV C K) (hcf : CFok C cf) {cls : List Nat} {base : Nat} : ∀ {fuel : Nat} {listed : Array Bool} {ρ ρ' : Tr DV} {h h' : VH}, base + ops.size ≤ h.nx → vany C.P K f n cf ops cls base fuel listed ρ h = some (ρ', h') → h.nx ≤ h'.nx ∧
    ∀ θ σ ρr {Q : Env → Store → Prop}, ER θ ρ ρr → NRel θ h.nx h.st σ → Kept θ base ops listed → (∀ θ' ρr' σ', (∀ j, j < h.nx → (∀ k, k < ops.size → j ≠ base + k) → θ' j = θ j) → ER θ' ρ' ρr' → NRel θ' h'.nx h'.st σ' → Q ρr' σ') →
      aAny C n .any ops (cls2 cls) Q fuel listed ρr σ := by
  intro fuel
  induction fuel with
  | zero =>
    intro listed ρ ρ' h h' hb hd
    simp only [vany] at hd
    split at hd
    · rename_i hr
      simp at hd; obtain ⟨rfl, rfl⟩ := hd
      exact ⟨Nat.le_refl _, fun θ σ ρr Q hE r hk k => ⟨hr, k θ _ _ (fun _ _ _ => rfl) hE r⟩⟩
    · simp at hd
  | succ fuel ih =>
    intro listed ρ ρ' h h' hb hd
    simp only [vany] at hd
    split at hd
    · rename_i hr
      simp at hd; obtain ⟨rfl, rfl⟩ := hd
      exact ⟨Nat.le_refl _, fun θ σ ρr Q hE r hk k => ⟨fun _ => k θ _ _ (fun _ _ _ => rfl) hE r, fun i hi => by rw [hr] at hi; cases hi⟩⟩
    · rename_i r0 rs hr
      -- one step
      have step : ∀ k, k ∈ Region.ready .any ops listed → vgo C.P K f n cf ops cls base (vany C.P K f n cf ops cls base fuel) listed ρ h k = some (ρ', h') → h.nx ≤ h'.nx ∧ ∃ o, ops[k]? = some o ∧ ∀ θ σ ρr {Q : Env → Store → Prop}, ER θ ρ ρr → NRel θ h.nx h.st σ → Kept θ base ops listed → (∀ θ' ρr' σ', (∀ j, j < h.nx → (∀ k, k < ops.size → j ≠ base + k) → θ' j = θ j) → ER θ' ρ' ρr' → NRel θ' h'.nx h'.st σ' → Q ρr' σ') →
            aOp C n ops (cls2 cls k) o (aAny C n .any ops (cls2 cls) Q fuel (listed.setIfInBounds k true)) ρr σ := by
        intro k hkr hs
        unfold vgo at hs
        split at hs
        · rename_i ρ1 h1 h2
          obtain ⟨g1, o, ho, g2⟩ := vstepA_op hK hcf hb h2
          have hk : k < ops.size := (Array.getElem?_eq_some_iff.1 ho).1
          obtain ⟨g3, g4⟩ := ih (by omega) hs
          refine ⟨Nat.le_trans g1 g3, o, ho, fun θ σ ρr Q hE r hkp k' => ?_⟩
          have hun := (mem_ready.1 hkr).1
          refine g2 θ σ ρr hE r (hkp k hk hun) fun θ1 ρr1 σ1 e1 hE1 r1 => g4 θ1 σ1 ρr1 hE1 r1 (fun j hj hl => ?_) fun θ2 ρr2 σ2 e2 hE2 r2 => k' θ2 _ _ (fun j hj hjk => ?_) hE2 r2
          · obtain ⟨hl1, hl2⟩ := getD_set hl
            rw [e1 (base + j) (by omega) (fun e => hl2 (by omega))]
            exact hkp j hj hl1
          · rw [e2 j (by omega) hjk, e1 j hj (hjk k hk)]
        · simp at hs
      split at hd
      · rename_i k hp
        obtain ⟨hm, hc, hf⟩ := pick0_spec hp
        rw [← hr] at hm
        obtain ⟨g1, o, ho, g2⟩ := step k hm hd
        refine ⟨g1, fun θ σ ρr Q hE r hkp k' => ?_⟩
        have h1 := g2 θ σ ρr hE r hkp k'
        have hc2 : cls2 cls k = .pure := by unfold cls2; rw [hc]
        rw [hc2] at h1
        obtain ⟨d, hpv, hrest⟩ := h1
        exact aAny_first (p := true) ho ⟨fun _ => hc2, fun h => by simp at h⟩ fuel listed ρr σ (Region.free_spec ho hf) (.inl rfl) hm (by simpa [VV] using hpv) hrest
      · unfold vall at hd
        split at hd
        · rename_i hall
          have hall' := List.all_eq_true.1 hall
          have heach : ∀ k, k ∈ Region.ready .any ops listed → vgo C.P K f n cf ops cls base (vany C.P K f n cf ops cls base fuel) listed ρ h k = some (ρ', h') := fun k hk => by
            rw [hr] at hk
            rw [stB_eq (hall' k hk)]; exact hd
          refine ⟨(step r0 (by rw [hr]; simp) hd).1, fun θ σ ρr Q hE r hkp k' => ⟨fun h0 => by rw [hr] at h0; simp at h0, fun i hi => ?_⟩⟩
          obtain ⟨_, o, ho, g2⟩ := step i hi (heach i hi)
          exact ⟨o, ho, g2 θ σ ρr hE r hkp k'⟩
        · simp at hd
end
end Go.Arb
end

section
namespace Go.Arb
set_option linter.unusedVariables false
set_option linter.unusedSimpArgs false
open Go Go.Lib

/-! ### What nobody writes any more -/
theorem R_frz_arr' {C F σ w b E sz elems c n v} (hS : Sim C F σ w) (hb : σ b = some (.arr E sz elems c)) (hn : n ≤ elems.length) (hv : R (own F σ) w v (.vw b 0 n c)) : R (own F (sdel σ b)) w v (.sl (elems.take n)) := by
  cases hv
  obtain ⟨cs, hh, hs, hl, hm, hz, hR⟩ := hS.ob b _ hb
  have hd := Sim.drop hS b
  have hz' : ∀ es ∈ elems.take n, es.length = sz := fun es he => hz es (List.mem_of_mem_take he)
  have hle : n * sz ≤ c * sz := Nat.mul_le_mul_right _ (by omega)
  have hmin : min n elems.length = n := Nat.min_eq_left hn
  refine R_sl_of_flat (not_own_sdel hS hb) hh (by simp; omega) (by omega) hz' (fun j v d hv hd' => ?_) (by rw [hs, List.length_take, hmin]; exact hle) hm
  obtain ⟨h0, h1, h2, h3⟩ := flatten_at hz' hd'
  have hi : elems[j / sz]? = some ((elems.take n).getD (j / sz) []) := by
    rw [List.length_take, hmin] at h1
    rw [List.getD_eq_getElem?_getD, List.getElem?_take, if_pos h1]
    have h1' : j / sz < elems.length := by omega
    simp [h1']
  obtain ⟨v', hv', hR'⟩ := hR _ _ _ d hi h3
  rw [Nat.div_add_mod'] at hv'
  rw [hv] at hv'
  simp at hv'
  exact hd.2.2 _ _ (hv' ▸ hR')

/-- From one reading of the world to another. -/
structure GH (C : Cx) (σ σ2 : Store) (l l2 : List DV) : Prop where
  len : l.length = l2.length
  go : ∀ F w, Sim C F σ w → Sim C F σ2 w ∧ Step σ w σ2 w ∧ (∀ v d, R (own F σ) w v d → R (own F σ2) w v d) ∧
    ∀ (i : Nat) v d d2, l[i]? = some d → l2[i]? = some d2 → R (own F σ) w v d → R (own F σ2) w v d2

theorem GH.refl (C σ l) : GH C σ σ l l := ⟨rfl, fun F w hS => ⟨hS, .refl _ _, fun v d h => h, fun i v d d2 h1 h2 h => by rw [h1] at h2; cases h2; exact h⟩⟩

theorem fcalls_ghost {C f ds ds2 σ σ2 Q} (g : GH C σ σ2 ds ds2) (h : fcalls C f ds2 σ2 Q) : fcalls C f ds σ Q := by
  intro F w vs hs hr hS
  obtain ⟨hS2, hst, _, hgo⟩ := g.go F w hS
  refine (h F w vs (by rw [hs, g.len]) (fun i v d2 hv hd2 => ?_) hS2).mono fun v w' ⟨d, σ', hv, hS', hst', q⟩ => ⟨d, σ', hv, hS', hst.trans hst', q⟩
  have hi : i < ds.length := by rw [g.len]; exact lt_of_get hd2
  exact hgo i v ds[i] d2 (by simp [hi]) hd2 (hr i v ds[i] hv (by simp [hi]))

section
variable {C : Cx} {K : Kf}

theorem vfrz1_sound {h h2 : VH} {d d2 : DV} (hd : vfrz1 h d = some (d2, h2)) : h2.nx = h.nx ∧ ∀ θ σ d', NRel θ h.nx h.st σ → SR θ d d' → ∃ σ2 d2', NRel θ h2.nx h2.st σ2 ∧ SR θ d2 d2' ∧
    ∀ F w, Sim C F σ w → Sim C F σ2 w ∧ Step σ w σ2 w ∧ (∀ v d, R (own F σ) w v d → R (own F σ2) w v d) ∧ ∀ v, R (own F σ) w v d' → R (own F σ2) w v d2' := by
  unfold vfrz1 at hd
  split at hd
  · rename_i k n c
    split at hd
    · rename_i E sz elems c' hk
      split at hd
      · rename_i hc
        obtain ⟨c1, rfl, c3⟩ := hc
        simp at hd; obtain ⟨rfl, rfl⟩ := hd
        refine ⟨rfl, fun θ σ d' r hs => ?_⟩
        obtain ⟨x, e, rfl, hx⟩ := hs.inv_vw
        obtain ⟨y', e', o', k1, k2, k3⟩ := r.ob _ _ hk
        rw [hx] at k1; cases k1
        cases k3 with
        | arr _ _ _ el' _ _ hl =>
          refine ⟨sdel σ x, .sl (elems.take n), by rw [VH.st_del]; exact r.del hk hx, .imm _ (by simpa [nb] using c3), fun F w hS => ?_⟩
          obtain ⟨h1, h2, h3⟩ := Sim.drop hS x
          refine ⟨h1, h2, h3, fun v hv => ?_⟩
          have := R_frz_arr' hS k2 (n := n) (by rw [← hl.1]; exact c1) hv
          have heq : el'.take n = elems.take n := by
            have ht := hl.take n
            refine List.ext_getElem ht.1.symm fun j g1 g2 => ?_
            have a1 : (elems.take n)[j]? = some (elems.take n)[j] := List.getElem?_eq_getElem g2
            have a2 : (el'.take n)[j]? = some (el'.take n)[j] := List.getElem?_eq_getElem g1
            exact (ht.2 j _ _ a1 a2).eq_of_nb (nbLL_iff.1 c3 j _ a1)
          rwa [heq] at this
      · simp at hd
    · simp at hd
  · simp at hd
  · simp at hd; obtain ⟨rfl, rfl⟩ := hd
    exact ⟨rfl, fun θ σ d' r hs => ⟨σ, d', r, hs, fun F w hS => ⟨hS, .refl _ _, fun v d h => h, fun v h => h⟩⟩⟩

theorem vfrzL_sound : ∀ {l l2 : List DV} {h h2 : VH}, vfrzL l h = some (l2, h2) → h2.nx = h.nx ∧ ∀ θ σ l', NRel θ h.nx h.st σ → SRL θ l l' → ∃ σ2 l2', NRel θ h2.nx h2.st σ2 ∧ SRL θ l2 l2' ∧ GH C σ σ2 l' l2' := by
  intro l
  induction l with
  | nil =>
    intro l2 h h2 hd
    simp [vfrzL] at hd; obtain ⟨rfl, rfl⟩ := hd
    exact ⟨rfl, fun θ σ l' r hs => ⟨σ, l', r, hs, .refl _ _ _⟩⟩
  | cons d l ih =>
    intro l2 h h2 hd
    simp only [vfrzL] at hd
    split at hd
    · rename_i d1 h1 he
      split at hd
      · rename_i l1 h3 hl
        simp at hd; obtain ⟨rfl, rfl⟩ := hd
        obtain ⟨n1, g1⟩ := vfrz1_sound (C := C) he
        obtain ⟨n2, g2⟩ := ih hl
        refine ⟨n2.trans n1, fun θ σ l' r hs => ?_⟩
        obtain ⟨d', m', rfl, hd', hm'⟩ := hs.inv_cons
        obtain ⟨σ1, d2', r1, s1, k1⟩ := g1 θ σ d' r hd'
        obtain ⟨σ2, m2', r2, s2, k2⟩ := g2 θ σ1 m' r1 hm'
        refine ⟨σ2, d2' :: m2', r2, .cons s1 s2, ⟨by simp [k2.len], fun F w hS => ?_⟩⟩
        obtain ⟨a1, a2, a3, a4⟩ := k1 F w hS
        obtain ⟨b1, b2, b3, b4⟩ := k2.go F w a1
        refine ⟨b1, a2.trans b2, fun v d h => b3 v d (a3 v d h), fun i v e e2 he he2 hv => ?_⟩
        cases i with
        | zero => simp at he he2; subst he he2; exact b3 _ _ (a4 v hv)
        | succ i => exact b4 i v e e2 (by simpa using he) (by simpa using he2) (a3 v e hv)
      · simp at hd
    · simp at hd

theorem R_tup_map {I I2 w} {v : Value} {l l2 : List DV} (h : R I w v (.tup l)) (hl : l.length = l2.length) (hg : ∀ (i : Nat) v d d2, l[i]? = some d → l2[i]? = some d2 → R I w v d → R I2 w v d2) : R I2 w v (.tup l2) := by
  cases h with
  | tup vs ds hs hr =>
    refine .tup _ _ (hs.trans hl) fun j u d2 hu hd2 => ?_
    · have hj : j < l.length := by rw [hl]; exact lt_of_get hd2
      exact hg j u l[j] d2 (by simp [hj]) hd2 (hr j u l[j] hu (by simp [hj]))
theorem R_agg_map {I I2 w} {v : Value} {l l2 : List DV} (h : R I w v (.agg l)) (hl : l.length = l2.length) (hg : ∀ (i : Nat) v d d2, l[i]? = some d → l2[i]? = some d2 → R I w v d → R I2 w v d2) : R I2 w v (.agg l2) := by
  cases h with
  | agg vs ds hs hr =>
    refine .agg _ _ (hs.trans hl) fun j u d2 hu hd2 => ?_
    · have hj : j < l.length := by rw [hl]; exact lt_of_get hd2
      exact hg j u l[j] d2 (by simp [hj]) hd2 (hr j u l[j] hu (by simp [hj]))

theorem vfrzR_sound {h h2 : VH} {d d2 : DV} (hd : vfrzR h d = some (d2, h2)) : h2.nx = h.nx ∧ ∀ θ σ d', NRel θ h.nx h.st σ → SR θ d d' → ∃ σ2 d2', NRel θ h2.nx h2.st σ2 ∧ SR θ d2 d2' ∧
    ∀ F w, Sim C F σ w → Sim C F σ2 w ∧ Step σ w σ2 w ∧ ∀ v, R (own F σ) w v d' → R (own F σ2) w v d2' := by
  unfold vfrzR at hd
  split at hd
  · split at hd
    · rename_i l1 h3 hl
      simp at hd; obtain ⟨rfl, rfl⟩ := hd
      obtain ⟨n1, g1⟩ := vfrzL_sound (C := C) hl
      refine ⟨n1, fun θ σ d' r hs => ?_⟩
      obtain ⟨l', rfl, hl'⟩ := hs.inv_tup
      obtain ⟨σ2, l2', r2, s2, k2⟩ := g1 θ σ l' r hl'
      refine ⟨σ2, .tup l2', r2, .mk_tup s2, fun F w hS => ?_⟩
      obtain ⟨b1, b2, b3, b4⟩ := k2.go F w hS
      exact ⟨b1, b2, fun v hv => R_tup_map hv k2.len b4⟩
    · simp at hd
  · split at hd
    · rename_i l1 h3 hl
      simp at hd; obtain ⟨rfl, rfl⟩ := hd
      obtain ⟨n1, g1⟩ := vfrzL_sound (C := C) hl
      refine ⟨n1, fun θ σ d' r hs => ?_⟩
      obtain ⟨l', rfl, hl'⟩ := hs.inv_agg
      obtain ⟨σ2, l2', r2, s2, k2⟩ := g1 θ σ l' r hl'
      refine ⟨σ2, .agg l2', r2, .mk_agg s2, fun F w hS => ?_⟩
      obtain ⟨b1, b2, b3, b4⟩ := k2.go F w hS
      exact ⟨b1, b2, fun v hv => R_agg_map hv k2.len b4⟩
    · simp at hd
  · obtain ⟨n1, g1⟩ := vfrz1_sound (C := C) hd
    refine ⟨n1, fun θ σ d' r hs => ?_⟩
    obtain ⟨σ2, d2', r2, s2, k2⟩ := g1 θ σ d' r hs
    exact ⟨σ2, d2', r2, s2, fun F w hS => ⟨(k2 F w hS).1, (k2 F w hS).2.1, (k2 F w hS).2.2.2⟩⟩

/-! ### The model's functions -/
theorem SRL.inv1 {θ d l} (h : SRL θ [d] l) : ∃ d', l = [d'] ∧ SR θ d d' := by
  obtain ⟨d', m, rfl, h1, h2⟩ := h.inv_cons
  cases h2.inv_nil
  exact ⟨d', rfl, h1⟩
theorem SRL.inv2 {θ d e l} (h : SRL θ [d, e] l) : ∃ d' e', l = [d', e'] ∧ SR θ d d' ∧ SR θ e e' := by
  obtain ⟨d', m, rfl, h1, h2⟩ := h.inv_cons
  obtain ⟨e', rfl, h3⟩ := h2.inv1
  exact ⟨d', e', rfl, h1, h3⟩

theorem vext_sound (hK : KV C K) {f : FuncId} {ds : List DV} {h h' : VH} {d : DV} (hd : vext (K.ext f) ds h = some (d, h')) : CallOk C f ds h d h' := by
  unfold vext at hd
  split at hd
  · rename_i hk
    simp at hd; obtain ⟨rfl, rfl⟩ := hd
    refine ⟨Nat.le_refl _, fun θ σ ds' r hs => ?_⟩
    obtain ⟨d', rfl, h1⟩ := hs.inv1
    exact fc_noEscape (hK.ext1 f hk) ⟨θ, .refl _, h1, r⟩
  · rename_i b off y hk
    split at hd
    · rename_i cs hb
      split at hd
      · rename_i x hx
        simp at hd; obtain ⟨rfl, rfl⟩ := hd
        refine ⟨Nat.le_refl _, fun θ σ ds' r hs => ?_⟩
        obtain ⟨p, q, rfl, h1, h2⟩ := hs.inv2
        cases h2.inv_i
        obtain ⟨z, e, rfl, hz⟩ := h1.inv_ptr
        obtain ⟨y', e', o', k1, k2, k3⟩ := r.ob _ _ hb
        rw [hz] at k1; cases k1
        cases k3 with
        | cells _ cs' hl =>
          obtain ⟨dx, hdx, hsx⟩ := hl.get hx
          cases hsx.inv_i
          refine fc_add (hK.ext2 f hk) k2 hdx ⟨θ, .refl _, .imm _ rfl, ?_⟩
          rw [VH.st_upd]
          refine r.write hb hz (.cells _ _ ⟨by simp [hl.1], fun j a b ha hb' => ?_⟩)
          rw [List.getElem?_set] at ha hb'
          split at ha
          · rename_i hj; rw [if_pos hj] at hb'
            split at ha
            · rename_i hlt; rw [if_pos (by rw [← hl.1]; exact hlt)] at hb'; cases ha; cases hb'; exact .imm _ rfl
            · simp at ha
          · rename_i hj; rw [if_neg hj] at hb'; exact hl.2 j a b ha hb'
      · simp at hd
    · simp at hd
  · rename_i b off hk
    split at hd
    · rename_i cs hb
      split at hd
      · rename_i x hx
        simp at hd; obtain ⟨rfl, rfl⟩ := hd
        refine ⟨Nat.le_refl _, fun θ σ ds' r hs => ?_⟩
        obtain ⟨p, rfl, h1⟩ := hs.inv1
        obtain ⟨z, e, rfl, hz⟩ := h1.inv_ptr
        obtain ⟨y', e', o', k1, k2, k3⟩ := r.ob _ _ hb
        rw [hz] at k1; cases k1
        cases k3 with
        | cells _ cs' hl =>
          obtain ⟨dx, hdx, hsx⟩ := hl.get hx
          cases hsx.inv_i
          exact fc_load (hK.ext3 f hk) k2 hdx ⟨θ, .refl _, .imm _ rfl, r⟩
      · simp at hd
    · simp at hd
  · rename_i b off hk
    split at hd
    · rename_i cs hb
      split at hd
      · rename_i x hx
        simp at hd; obtain ⟨rfl, rfl⟩ := hd
        refine ⟨Nat.le_refl _, fun θ σ ds' r hs => ?_⟩
        obtain ⟨p, rfl, h1⟩ := hs.inv1
        obtain ⟨z, e, rfl, hz⟩ := h1.inv_ptr
        obtain ⟨y', e', o', k1, k2, k3⟩ := r.ob _ _ hb
        rw [hz] at k1; cases k1
        cases k3 with
        | cells _ cs' hl =>
          obtain ⟨dx, hdx, hsx⟩ := hl.get hx
          cases hsx.inv_i
          exact fc_load (hK.ext4 f hk) k2 hdx ⟨θ, .refl _, .imm _ rfl, r⟩
      · simp at hd
    · simp at hd
  · simp at hd

/-! ### Code -/
def ERs (θ : Nm) (ρ : Tr DV) (ρr : Env) : Prop := ∀ t, SR θ (vget ρ t) (ρr t)
theorem ERs.er {θ ρ ρr} (h : ERs θ ρ ρr) : ER θ ρ ρr := fun t => .pl _ _ (h t)
theorem ER.strict {θ ρ ρr} (h : ER θ ρ ρr) : ERs θ ρ (fun t => conv (ρr t)) := fun t => (h t).conv

theorem Rel.conv {n F σ w a ρ} (h : Rel C n F σ w a ρ) : Rel C n F σ w a (fun t => Arb.conv (ρ t)) := ⟨h.size, h.defers, fun t v ht => R_conv (h.tmps t v ht), h.sim⟩
theorem awp_conv {n c Q ρ σ} (h : awp C n c (fun e ρ σ => Q e (fun t => Arb.conv (ρ t)) σ) ρ σ) : awp C n c Q ρ σ :=
  fun F σ0 w0 w a hr hs => wp_mono (h F σ0 w0 w a hr hs) fun e a w ⟨ρ', σ', r, s, q⟩ => ⟨_, σ', r.conv, s, q⟩

theorem awp_any {n id : Nat} {ops : Array Oper} {Q' : Exit → Env → Store → Prop} {ρ : Env} {σ : Store} {cls : Nat → Cls} (hm : C.P.follows .mixedOrders = true) (h : aAny C n .any ops cls (Q' .normal) ops.size (Array.replicate ops.size false) ρ σ) : awp C n (.region id ops true) Q' ρ σ := by
  intro F σ0 w0 w a hr hs
  refine wp_region_any hm ?_
  have hr' : Rel C n F σ { w with drawn := w.drawn + 1 } a ρ := ⟨hr.size, hr.defers, fun t v ht => (hr.tmps t v ht).drew, hr.sim.drew⟩
  exact aAny_sound _ _ _ _ h (fun _ _ h => h) F σ0 w0 _ a hr' (hs.trans .drew)

theorem vres_sound {n : Nat} {ρ : Tr DV} {h : VH} {θ σ ρr} (hE : ERs θ ρ ρr) (r : NRel θ h.nx h.st σ) : ∀ {l : List ResultVar} {ds : List DV}, vres C.P n ρ h l = some ds → ∃ ds', resC C.P n ρr σ l = some ds' ∧ SRL θ ds ds' := by
  have hev : ∀ x, SR θ (veval n ρ x) (ev n ρr x) := fun x => by
    cases x with
    | tmp t =>
      simp only [veval, ev]
      split
      · exact hE t
      · exact .any _
    | const v => exact SR_ofVs v
    | global g => exact .any _
    | func f => exact .imm _ rfl
  intro l
  induction l with
  | nil => intro ds hd; simp [vres] at hd; subst hd; exact ⟨[], rfl, .nil⟩
  | cons x l ih =>
    intro ds hd
    cases x with
    | tmp t =>
      simp only [vres] at hd
      split at hd
      · rename_i l1 h1
        simp at hd; subst hd
        obtain ⟨ds', g1, g2⟩ := ih h1
        exact ⟨_, by simp only [resC, g1]; rfl, .cons (hev _) g2⟩
      · simp at hd
    | cell b t =>
      simp only [vres] at hd
      split at hd
      · rename_i d l1 h1 h2
        simp at hd; subst hd
        obtain ⟨ds', g1, g2⟩ := ih h2
        obtain ⟨d', g3, g4⟩ := loadV_par r (hev (.tmp b)) h1
        exact ⟨d' :: ds', by simp only [resC, g1, g3], .cons g4 g2⟩
      · simp at hd

/-- What the machine says of code is so. -/
def CodeOk (C : Cx) (n : Nat) (c : Code) (ρ : Tr DV) (h : VH) (x : Exit) (ρ' : Tr DV) (h' : VH) : Prop :=
  h.nx ≤ h'.nx ∧ ∀ θ σ ρr {Q : Exit → Env → Store → Prop}, ERs θ ρ ρr → NRel θ h.nx h.st σ → (∀ θ' ρr' σ', ExtN h.nx θ θ' → ERs θ' ρ' ρr' → NRel θ' h'.nx h'.st σ' → Q x ρr' σ') → awp C n c Q ρr σ

def RunOk (C : Cx) (K : Kf) (run : RF) : Prop := ∀ f n c ρ h x ρ' h', okReg K f c = true → run f n c ρ h = some (x, ρ', h') → CodeOk C n c ρ h x ρ' h'

theorem mkEnv_get : ∀ (ds : List DV) (k : Nat) (ρ : Tr DV) (t : Nat), vget (mkEnv k ds ρ) t = if k ≤ t ∧ t < k + ds.length then ds.getD (t - k) .any else vget ρ t := by
  intro ds
  induction ds with
  | nil => intro k ρ t; simp only [mkEnv, List.length_nil]; rw [if_neg (by omega)]
  | cons d ds ih =>
    intro k ρ t
    simp only [mkEnv]
    rw [ih]
    simp only [List.length_cons]
    by_cases h1 : Nat.succ k ≤ t ∧ t < Nat.succ k + ds.length
    · rw [if_pos h1, if_pos (by omega)]
      have : t - k = (t - Nat.succ k) + 1 := by omega
      rw [this]
      simp
    · rw [if_neg h1]
      simp only [vget, Tr.get_set]
      by_cases h2 : t = k
      · subst h2; simp
      · rw [if_neg h2, if_neg (by omega)]

theorem mkEnv_ER {θ : Nm} {ds ds' : List DV} (h : SRL θ ds ds') : ERs θ (mkEnv 0 ds .nil) (envOf ds') := fun t => by
  rw [mkEnv_get]
  simp only [Nat.zero_le, true_and, Nat.zero_add, Nat.sub_zero]
  split
  · rename_i ht
    have ht' : t < ds'.length := by rw [← h.1]; exact ht
    exact h.2 t _ _ (by simp [List.getD, ht]) (by simp [envOf, List.getD, ht'])
  · exact .any _

theorem acalls_ghost {f ds σ} {Q Q2 : DV → Store → Prop} (h : acalls C f ds σ Q) (hg : ∀ d σ1, Q d σ1 → ∃ d2 σ2, Q2 d2 σ2 ∧ ∀ F w, Sim C F σ1 w → Sim C F σ2 w ∧ Step σ1 w σ2 w ∧ ∀ v, R (own F σ1) w v d → R (own F σ2) w v d2) : acalls C f ds σ Q2 :=
  ⟨h.1, fun F w vs hs hr hS => (h.2 F w vs hs hr hS).mono fun e w' ⟨v, d, σ1, he, hv, hS', hst, q⟩ => by
    obtain ⟨d2, σ2, q2, g⟩ := hg d σ1 q
    obtain ⟨a, b, c⟩ := g F w' hS'
    exact ⟨v, d2, σ2, he, c v hv, a, hst.trans b, q2⟩⟩

theorem SRL.tupD {θ l l'} (h : SRL θ l l') : SR θ (tupD l) (tupD l') := by
  match l, l', h with
  | [], l', h => cases h.inv_nil; exact .imm _ rfl
  | [d], l', h => obtain ⟨d', rfl, h1⟩ := h.inv1; exact h1
  | d :: e :: r, l', h =>
    obtain ⟨d', m, rfl, h1, h2⟩ := h.inv_cons
    obtain ⟨e', m', rfl, h3, h4⟩ := h2.inv_cons
    exact .mk_tup h

theorem vbody_sound (hK : KV C K) {run : RF} (hrun : RunOk C K run) {f : FuncId} {ds : List DV} {h h' : VH} {d : DV} (hd : vbody C.P K run f ds h = some (d, h')) : h.nx ≤ h'.nx ∧
    ∀ θ σ ds', NRel θ h.nx h.st σ → SRL θ ds ds' → acalls C f ds' σ fun d' σ' => ∃ θ', ExtN h.nx θ θ' ∧ SR θ' d d' ∧ NRel θ' h'.nx h'.st σ' := by
  unfold vbody at hd
  split at hd
  · simp at hd
  · rename_i fn hf
    split at hd
    · simp at hd
    · rename_i c hb
      split at hd
      · rename_i hlen
        split at hd
        · rename_i x ρ h1 hr
          have hx : (x = .normal ∨ x = .ret) ∧ (match vres C.P fn.ntmps ρ h1 fn.results.toList with
            | some l => if K.frz f = true then vfrzR h1 (tupD l) else some (tupD l, h1)
            | none => none) = some (d, h') := by
            split at hd
            · exact ⟨.inl rfl, hd⟩
            · exact ⟨.inr rfl, hd⟩
            · simp at hd
          obtain ⟨hx, hd⟩ := hx
          obtain ⟨g1, g2⟩ := hrun _ _ _ _ _ _ _ _ (hK.reg f fn c hf hb) hr
          split at hd
          · rename_i l hl
            have enter : ∀ θ σ ds', NRel θ h.nx h.st σ → SRL θ ds ds' → acalls C f ds' σ fun d' σ' => ∃ θ', ExtN h.nx θ θ' ∧ SR θ' (tupD l) d' ∧ NRel θ' h1.nx h1.st σ' := by
              intro θ σ ds' r hs
              refine acalls_enterC hf hb rfl (hK.names f fn hf) (by rw [← hs.1]; exact hlen) (g2 θ σ _ (mkEnv_ER hs) r fun θ' ρr' σ' e hE r' => ?_)
              obtain ⟨ls, k1, k2⟩ := vres_sound hE r' hl
              exact ⟨hx, ls, k1, θ', e, k2.tupD, r'⟩
            split at hd
            · obtain ⟨n1, k⟩ := vfrzR_sound (C := C) hd
              refine ⟨by omega, fun θ σ ds' r hs => acalls_ghost (enter θ σ ds' r hs) ?_⟩
              rintro d1 σ1 ⟨θ', e, s1, r1⟩
              obtain ⟨σ2, d2', r2, s2, k2⟩ := k θ' σ1 d1 r1 s1
              exact ⟨d2', σ2, ⟨θ', e, s2, r2⟩, k2⟩
            · simp at hd; obtain ⟨rfl, rfl⟩ := hd
              exact ⟨g1, enter⟩
          · simp at hd
        · simp at hd
      · simp at hd

theorem SRL.set {θ l l' d d'} (h : SRL θ l l') (k : SR θ d d') (j : Nat) : SRL θ (l.set j d) (l'.set j d') :=
  ⟨by simp [h.1], fun i a b ha hb' => by
    rw [List.getElem?_set] at ha hb'
    split at ha
    · rename_i hj; rw [if_pos hj] at hb'
      split at ha
      · rename_i hlt; rw [if_pos (by rw [← h.1]; exact hlt)] at hb'; cases ha; cases hb'; exact k
      · simp at ha
    · rename_i hj; rw [if_neg hj] at hb'; exact h.2 i a b ha hb'⟩

theorem vonce_sound (hK : KV C K) {run : RF} (hrun : RunOk C K run) {f : FuncId} {ds : List DV} {h h' : VH} {d : DV} (hd : vonce C.P K run f ds h = some (d, h')) : CallOk C f ds h d h' := by
  unfold vonce at hd
  split at hd
  · rename_i b off g a c hk
    have hk : K.ext f = 10 := by simpa using hk
    split at hd
    · rename_i cs hb
      split at hd
      · rename_i x y hx hy
        split at hd
        · rename_i hxy
          obtain ⟨rfl, rfl⟩ := hxy
          unfold vonce2 at hd
          split at hd
          · rename_i d1 h1 hbd
            obtain ⟨n1, k1⟩ := vbody_sound hK hrun hbd
            split at hd
            · rename_i cs2 hb2
              split at hd
              · rename_i x2 y2 hx2 hy2
                split at hd
                · rename_i hxy2
                  obtain ⟨rfl, rfl⟩ := hxy2
                  simp at hd; obtain ⟨rfl, rfl⟩ := hd
                  refine ⟨n1, fun θ σ ds' r hs => ?_⟩
                  obtain ⟨p, q, rfl, s1, s2⟩ := hs.inv2
                  obtain ⟨z, e, rfl, hz⟩ := s1.inv_ptr
                  obtain ⟨a', c', rfl, sa, sc⟩ := s2.inv_fn
                  obtain ⟨y', e', o', q1, q2, q3⟩ := r.ob _ _ hb
                  rw [hz] at q1; cases q1
                  cases q3 with
                  | cells _ cs' hl =>
                    obtain ⟨dx, hdx, hsx⟩ := hl.get hx
                    cases hsx.inv_i
                    obtain ⟨dy, hdy, hsy⟩ := hl.get hy
                    cases hsy.inv_i
                    refine hK.once f hk σ z off g a' c' cs' _ q2 hdx hdy ?_
                    have r1 := r.write hb hz (o1 := .cells (cs.set (off + 1) (.i .i32 1))) (o1' := .cells (cs'.set (off + 1) (.i .i32 1))) (.cells _ _ (hl.set (.imm _ rfl) _))
                    rw [← VH.st_upd] at r1
                    refine (k1 θ _ (a' ++ c') r1 (sa.append sc)).mono fun d2 σ2 ⟨θ', e2, s3, r2⟩ => ?_
                    have hz2 := e2.ext r b _ hz
                    obtain ⟨y2, e3, o2, t1, t2, t3⟩ := r2.ob _ _ hb2
                    rw [hz2] at t1; cases t1
                    cases t3 with
                    | cells _ cs2' hl2 =>
                      obtain ⟨dx2, hdx2, hsx2⟩ := hl2.get hx2
                      cases hsx2.inv_i
                      obtain ⟨dy2, hdy2, hsy2⟩ := hl2.get hy2
                      cases hsy2.inv_i
                      refine ⟨cs2', t2, hdx2, hdy2, θ', e2, .imm _ rfl, ?_⟩
                      rw [VH.st_upd]
                      exact r2.write hb2 hz2 (.cells _ _ ((hl2.set (.imm _ rfl) _).set (.imm _ rfl) _))
                · simp at hd
              · simp at hd
            · simp at hd
          · simp at hd
        · simp at hd
      · simp at hd
    · simp at hd
  · simp at hd

theorem vcoll_sound (hK : KV C K) {f : FuncId} {ds : List DV} {h h' : VH} {d : DV} (hd : vcoll K f ds h = some (d, h')) : CallOk C f ds h d h' := by
  unfold vcoll at hd
  split at hd
  · rename_i g b hk
    have hk : K.ext f = 11 := by simpa using hk
    split at hd
    · rename_i hg
      split at hd
      · rename_i m hb
        split at hd
        · rename_i hm
          simp at hd; obtain ⟨rfl, rfl⟩ := hd
          refine ⟨Nat.le_refl _, fun θ σ ds' r hs => ?_⟩
          obtain ⟨p, rfl, s1⟩ := hs.inv1
          obtain ⟨a', c', rfl, sa, sc⟩ := s1.inv_fn
          cases sa.inv_nil
          obtain ⟨q, rfl, s2⟩ := sc.inv1
          obtain ⟨z, e, rfl, hz⟩ := s2.inv_ptr
          obtain ⟨y', e', o', q1, q2, q3⟩ := r.ob _ _ hb
          rw [hz] at q1; cases q1
          cases q3 with
          | cells _ cs' hl =>
            obtain ⟨dm, rfl, s3⟩ := hl.inv1
            obtain ⟨zm, em, rfl, hzm⟩ := s3.inv_mp
            obtain ⟨y2, e2, o2, t1, t2, t3⟩ := r.ob _ _ hm
            rw [hzm] at t1; cases t1
            cases t3 with
            | map _ kvs' hl2 hr2 =>
              have : kvs' = [] := List.eq_nil_of_length_eq_zero (by simpa using hl2.symm)
              subst this
              exact hK.coll f g hk hg σ z zm [] _ q2 t2 (.inl ⟨rfl, θ, .refl _, .imm _ rfl, r⟩)
        · rename_i x vd hm
          split at hd
          · rename_i hw
            simp at hd; obtain ⟨rfl, rfl⟩ := hd
            refine ⟨Nat.le_refl _, fun θ σ ds' r hs => ?_⟩
            obtain ⟨p, rfl, s1⟩ := hs.inv1
            obtain ⟨a', c', rfl, sa, sc⟩ := s1.inv_fn
            cases sa.inv_nil
            obtain ⟨q, rfl, s2⟩ := sc.inv1
            obtain ⟨z, e, rfl, hz⟩ := s2.inv_ptr
            obtain ⟨y', e', o', q1, q2, q3⟩ := r.ob _ _ hb
            rw [hz] at q1; cases q1
            cases q3 with
            | cells _ cs' hl =>
              obtain ⟨dm, rfl, s3⟩ := hl.inv1
              obtain ⟨zm, em, rfl, hzm⟩ := s3.inv_mp
              obtain ⟨y2, e2, o2, t1, t2, t3⟩ := r.ob _ _ hm
              rw [hzm] at t1; cases t1
              cases t3 with
              | map _ kvs' hl2 hr2 =>
                match kvs', hl2 with
                | [(k', d')], _ =>
                  have hk0 := (hr2 0 _ _ rfl rfl).1
                  simp at hk0
                  subst hk0
                  exact hK.coll f g hk hg σ z zm _ _ q2 t2 (.inr ⟨x, d', rfl, hw, θ, .refl _, .imm _ rfl, r⟩)
          · simp at hd
        · simp at hd
      · simp at hd
    · simp at hd
  · simp at hd

theorem vcall_sound (hK : KV C K) {run : RF} (hrun : RunOk C K run) : CFok C (fun g ds h => vcall C.P K run g ds h) := by
  intro g ds h d h' hd
  simp only [vcall] at hd
  have key : ∀ ds h, (match K.orc g ds with
      | some d => if nbL ds = true ∧ nb d = true then some (d, h) else none
      | none => match vext (K.ext g) ds h with
        | some r => some r
        | none => match vonce C.P K run g ds h with
          | some r => some r
          | none => match vcoll K g ds h with
            | some r => some r
            | none => vbody C.P K run g ds h) = some (d, h') → CallOk C g ds h d h' := by
    intro ds h hd
    split at hd
    · rename_i d1 ho
      split at hd
      · rename_i hc
        simp at hd; obtain ⟨rfl, rfl⟩ := hd
        refine ⟨Nat.le_refl _, fun θ σ ds' r hs => ?_⟩
        rw [hs.eq_of_nb hc.1]
        exact (hK.orc g ds d1 ho hc.1 hc.2 σ).mono fun d' σ' ⟨e1, e2⟩ => by subst e1 e2; exact ⟨θ, .refl _, .imm _ hc.2, r⟩
      · simp at hd
    · split at hd
      · rename_i r0 he
        simp at hd; subst hd
        exact vext_sound hK he
      · split at hd
        · rename_i r0 he
          simp at hd; subst hd
          exact vonce_sound hK hrun he
        · split at hd
          · rename_i r0 he
            simp at hd; subst hd
            exact vcoll_sound hK he
          · obtain ⟨g1, g2⟩ := vbody_sound hK hrun hd
            exact ⟨g1, fun θ σ ds' r hs => fcalls_of (g2 θ σ ds' r hs)⟩
  split at hd
  · simp at hd
  · rename_i ds2 h2 hz
    obtain ⟨k1, k2⟩ := key ds2 h2 hd
    split at hz
    · obtain ⟨n1, g1⟩ := vfrzL_sound (C := C) hz
      refine ⟨by omega, fun θ σ ds' r hs => ?_⟩
      obtain ⟨σ2, l2', r2, s2, gh⟩ := g1 θ σ ds' r hs
      rw [← n1]
      exact fcalls_ghost gh (k2 θ σ2 l2' r2 s2)
    · simp at hz; obtain ⟨rfl, rfl⟩ := hz
      exact ⟨k1, k2⟩
end
end Go.Arb
end

section
namespace Go.Arb
set_option linter.unusedVariables false
set_option linter.unusedSimpArgs false
open Go Go.Lib

section
variable {C : Cx} {K : Kf}

def NoGo (Q : Exit → Env → Store → Prop) : Exit → Env → Store → Prop
  | .goto _, _, _ => False
  | e, ρ, σ => Q e ρ σ
theorem awp_scope {n c Q ρ σ} (h : awp C n c (NoGo Q) ρ σ) : awp C n (.scope c) Q ρ σ := fun F σ0 w0 w a hr hs => wp_scope_straight (wp_mono (h F σ0 w0 w a hr hs) fun e a w ⟨ρ', σ', r, s, q⟩ => by
  cases e with
  | goto l => exact q.elim
  | _ => exact ⟨ρ', σ', r, s, q⟩)

/-- Rounds of a loop that the machine went through. -/
def RoundsOk (C : Cx) (n : Nat) (a : Code) (ρ : Tr DV) (h : VH) (x : Exit) (ρ' : Tr DV) (h' : VH) : Prop :=
  h.nx ≤ h'.nx ∧ ∃ m, ∀ θ σ ρr {Q : Exit → Env → Store → Prop}, ERs θ ρ ρr → NRel θ h.nx h.st σ → (∀ θ' ρr' σ', ExtN h.nx θ θ' → ERs θ' ρ' ρr' → NRel θ' h'.nx h'.st σ' → Q x ρr' σ') →
    ∀ F σ0 w0 w ac, Rel C n F σ w ac ρr → Step σ0 w0 σ w → Code.rounds C.P a (Post C n F σ0 w0 Q) m ac w

theorem vcode_all (hK : KV C K) : ∀ fuel, RunOk C K (vcode C.P K fuel) ∧
    (∀ f n a ρ h x ρ' h', okReg K f a = true → vcode C.P K fuel f n (.loop a) ρ h = some (x, ρ', h') → RoundsOk C n a ρ h x ρ' h') := by
  intro fuel
  induction fuel with
  | zero => exact ⟨fun f n c ρ h x ρ' h' _ hd => by simp [vcode] at hd, fun f n a ρ h x ρ' h' _ hd => by simp [vcode] at hd⟩
  | succ fuel ih =>
    obtain ⟨ihA, ihB⟩ := ih
    have hcf := vcall_sound hK ihA
    have hB : ∀ f n a ρ h x ρ' h', okReg K f a = true → vcode C.P K (fuel + 1) f n (.loop a) ρ h = some (x, ρ', h') → RoundsOk C n a ρ h x ρ' h' := by
      intro f n a ρ h x ρ' h' hok hd
      simp only [vcode] at hd
      split at hd
      · rename_i ρ1 h1 h2
        obtain ⟨g1, g2⟩ := ihA _ _ _ _ _ _ _ _ hok h2
        obtain ⟨g3, m, g4⟩ := ihB _ _ _ _ _ _ _ _ hok hd
        refine ⟨Nat.le_trans g1 g3, m + 1, fun θ σ ρr Q hE r k F σ0 w0 w ac hr hs => ?_⟩
        rw [rounds_succ]
        have := g2 θ σ ρr (Q := fun e ρr1 σ1 => e = .normal ∧ ∃ θ1, ExtN h.nx θ θ1 ∧ ERs θ1 ρ1 ρr1 ∧ NRel θ1 h1.nx h1.st σ1) hE r (fun θ1 ρr1 σ1 e1 hE1 r1 => ⟨rfl, θ1, e1, hE1, r1⟩) F σ0 w0 w ac hr hs
        refine wp_mono this fun e ac' w' ⟨ρr1, σ1, hr1, hs1, he, θ1, e1, hE1, r1⟩ => ?_
        subst he
        exact g4 θ1 σ1 ρr1 hE1 r1 (fun θ2 ρr2 σ2 e2 hE2 r2 => k θ2 _ _ (e1.trans e2 g1) hE2 r2) F σ0 w0 w' ac' hr1 hs1
      · rename_i hn
        have hx : x ≠ .normal := fun e => by subst e; exact hn ρ' h' hd
        obtain ⟨g1, g2⟩ := ihA _ _ _ _ _ _ _ _ hok hd
        refine ⟨g1, 1, fun θ σ ρr Q hE r k F σ0 w0 w ac hr hs => ?_⟩
        rw [rounds_succ]
        have := g2 θ σ ρr (Q := fun e ρr1 σ1 => e = x ∧ Q x ρr1 σ1) hE r (fun θ1 ρr1 σ1 e1 hE1 r1 => ⟨rfl, k θ1 _ _ e1 hE1 r1⟩) F σ0 w0 w ac hr hs
        refine wp_mono this fun e ac' w' ⟨ρr1, σ1, hr1, hs1, he, hq⟩ => ?_
        subst he
        cases e <;> first | exact absurd rfl hx | exact ⟨ρr1, σ1, hr1, hs1, hq⟩
    refine ⟨?_, hB⟩
    intro f n c ρ h x ρ' h' hok hd
    cases c with
    | skip => simp [vcode] at hd; obtain ⟨rfl, rfl, rfl⟩ := hd; exact ⟨Nat.le_refl _, fun θ σ ρr Q hE r k => awp_skip (k θ _ _ (.refl _) hE r)⟩
    | label l => simp [vcode] at hd; obtain ⟨rfl, rfl, rfl⟩ := hd; exact ⟨Nat.le_refl _, fun θ σ ρr Q hE r k => awp_label (k θ _ _ (.refl _) hE r)⟩
    | ret => simp [vcode] at hd; obtain ⟨rfl, rfl, rfl⟩ := hd; exact ⟨Nat.le_refl _, fun θ σ ρr Q hE r k => awp_ret (k θ _ _ (.refl _) hE r)⟩
    | exit j => simp [vcode] at hd; obtain ⟨rfl, rfl, rfl⟩ := hd; exact ⟨Nat.le_refl _, fun θ σ ρr Q hE r k => awp_exit (k θ _ _ (.refl _) hE r)⟩
    | region id ops drawn =>
      simp only [vcode] at hd
      split at hd
      · rename_i ρ1 h1 he
        simp at hd; obtain ⟨rfl, rfl, rfl⟩ := hd
        cases drawn with
        | false =>
          obtain ⟨g1, g2⟩ := vops_sound hcf he
          refine ⟨g1, fun θ σ ρr Q hE r k => awp_conv ?_⟩
          have h3 := g2 θ σ ρr (Q := fun e ρ σ => Q e (fun t => conv (ρ t)) σ) hE.er r (fun θ' ρr' σ' e hE' r' => k θ' _ _ e hE'.strict r')
          have h4 : awpL C n ops.toList.toArray ops.toList (fun e ρ σ => Q e (fun t => conv (ρ t)) σ) ρr σ := by simpa using h3
          have h5 := awp_region (id := id) h4
          simpa using h5
        | true =>
          simp only at he
          simp only [okReg] at hok
          split at he
          · rename_i rg hrg
            rw [hrg] at hok
            simp only at hok
            split at he
            · obtain ⟨g1, g2⟩ := vany_sound hK hcf (h := ⟨h.nx + ops.size, h.ob⟩) (Nat.le_refl _) he
              refine ⟨by simp only at g1; omega, fun θ σ ρr Q hE r k => awp_conv (awp_any (cls := cls2 rg.cls) hK.mixed ?_)⟩
              have r0 : NRel θ (h.nx + ops.size) h.st σ := ⟨fun k p hk => by have := r.dom k p hk; omega, r.ob, r.inj⟩
              refine g2 θ σ ρr (Q := fun ρ σ => Q .normal (fun t => conv (ρ t)) σ) hE.er r0 (fun k hk _ => ?_) (fun θ' ρr' σ' e hE' r' => k θ' _ _ (fun j hj => ?_) hE'.strict r')
              · cases hz : θ (h.nx + k) with
                | none => rfl
                | some p => have := r.dom _ p hz; omega
              · exact e j (by simp only; omega) (fun k hk => by omega)
            · rename_i hany
              have hany' : rg.any = false := by simpa using hany
              rw [hany'] at hok
              simp only [Bool.false_or, Bool.and_eq_true, decide_eq_true_eq] at hok
              obtain ⟨g1, g2⟩ := vord_sound hK hcf he
              refine ⟨g1, fun θ σ ρr Q hE r k => awp_conv (awp_draw (clsOf rg.cls) rg.ord hK.mixed hok.1 hok.2 ?_)⟩
              exact g2 θ σ ρr (Q := fun ρ σ => Q .normal (fun t => conv (ρ t)) σ) hE.er r (fun θ' ρr' σ' e hE' r' => k θ' _ _ e hE'.strict r')
          · simp at he
      · simp at hd
    | seq a b =>
      simp only [okReg, Bool.and_eq_true] at hok
      simp only [vcode] at hd
      split at hd
      · rename_i ρ1 h1 h2
        obtain ⟨g1, g2⟩ := ihA _ _ _ _ _ _ _ _ hok.1 h2
        obtain ⟨g3, g4⟩ := ihA _ _ _ _ _ _ _ _ hok.2 hd
        exact ⟨Nat.le_trans g1 g3, fun θ σ ρr Q hE r k => awp_seq (g2 θ σ ρr hE r fun θ1 ρr1 σ1 e1 hE1 r1 => g4 θ1 σ1 ρr1 hE1 r1 fun θ2 ρr2 σ2 e2 hE2 r2 => k θ2 _ _ (e1.trans e2 g1) hE2 r2)⟩
      · rename_i hn
        have hx : x ≠ .normal := fun e => by subst e; exact hn ρ' h' hd
        obtain ⟨g1, g2⟩ := ihA _ _ _ _ _ _ _ _ hok.1 hd
        refine ⟨g1, fun θ σ ρr Q hE r k => awp_seq (g2 θ σ ρr hE r fun θ1 ρr1 σ1 e1 hE1 r1 => ?_)⟩
        have := k θ1 _ _ e1 hE1 r1
        cases x <;> first | exact absurd rfl hx | exact this
    | cond c a b =>
      simp only [okReg, Bool.and_eq_true] at hok
      simp only [vcode] at hd
      have hev : ∀ {θ ρr}, ERs θ ρ ρr → SR θ (veval n ρ c) (ev n ρr c) := fun hE => by
        cases c with
        | tmp t =>
          simp only [veval, ev]
          split
          · exact hE t
          · exact .any _
        | const v => exact SR_ofVs v
        | global g => exact .any _
        | func f => exact .imm _ rfl
      split at hd
      · rename_i hc
        obtain ⟨g1, g2⟩ := ihA _ _ _ _ _ _ _ _ hok.1 hd
        refine ⟨g1, fun θ σ ρr Q hE r k => ?_⟩
        have h1 := hev hE
        rw [hc] at h1
        exact awp_cond h1.inv_b (fun _ => g2 θ σ ρr hE r k) (fun h => by simp at h)
      · rename_i hc
        obtain ⟨g1, g2⟩ := ihA _ _ _ _ _ _ _ _ hok.2 hd
        refine ⟨g1, fun θ σ ρr Q hE r k => ?_⟩
        have h1 := hev hE
        rw [hc] at h1
        exact awp_cond h1.inv_b (fun h => by simp at h) (fun _ => g2 θ σ ρr hE r k)
      · simp at hd
    | block id a =>
      simp only [okReg] at hok
      simp only [vcode] at hd
      split at hd
      · rename_i j ρ1 h1 h2
        obtain ⟨g1, g2⟩ := ihA _ _ _ _ _ _ _ _ hok h2
        split at hd
        · rename_i hj
          simp at hd; obtain ⟨rfl, rfl, rfl⟩ := hd
          exact ⟨g1, fun θ σ ρr Q hE r k => awp_block (g2 θ σ ρr hE r fun θ1 ρr1 σ1 e1 hE1 r1 => by simp only [InBlock]; rw [if_pos hj]; exact k θ1 _ _ e1 hE1 r1)⟩
        · rename_i hj
          simp at hd; obtain ⟨rfl, rfl, rfl⟩ := hd
          exact ⟨g1, fun θ σ ρr Q hE r k => awp_block (g2 θ σ ρr hE r fun θ1 ρr1 σ1 e1 hE1 r1 => by simp only [InBlock]; rw [if_neg hj]; exact k θ1 _ _ e1 hE1 r1)⟩
      · rename_i hn
        obtain ⟨g1, g2⟩ := ihA _ _ _ _ _ _ _ _ hok hd
        refine ⟨g1, fun θ σ ρr Q hE r k => awp_block (g2 θ σ ρr hE r fun θ1 ρr1 σ1 e1 hE1 r1 => ?_)⟩
        have := k θ1 _ _ e1 hE1 r1
        cases x with
        | exit j => exact absurd hd (hn j ρ' h')
        | _ => exact this
    | scope a =>
      simp only [okReg] at hok
      simp only [vcode] at hd
      split at hd
      · simp at hd
      · rename_i hn
        obtain ⟨g1, g2⟩ := ihA _ _ _ _ _ _ _ _ hok hd
        refine ⟨g1, fun θ σ ρr Q hE r k => awp_scope (g2 θ σ ρr hE r fun θ1 ρr1 σ1 e1 hE1 r1 => ?_)⟩
        have := k θ1 _ _ e1 hE1 r1
        cases x with
        | goto l => exact absurd hd (hn l ρ' h')
        | _ => exact this
    | loop a =>
      simp only [okReg] at hok
      obtain ⟨g1, m, g2⟩ := hB _ _ _ _ _ _ _ _ hok hd
      exact ⟨g1, fun θ σ ρr Q hE r k F σ0 w0 w ac hr hs => wp_loop_rounds m (g2 θ σ ρr hE r k F σ0 w0 w ac hr hs)⟩
    | _ => simp [vcode] at hd

/-- A call that the machine carries out, with nothing owned ahead. -/
noncomputable def vfact (P : Program) (K : Kf) (fuel : Nat) (f : FuncId) (ds : List DV) (d : DV) : Bool :=
  match vbody P K (vcode P K fuel) f ds ⟨0, .nil⟩ with
  | some (d', _) => nbL ds && nb d && dvB d' d
  | none => false

theorem vfact_sound (hK : KV C K) {fuel : Nat} {f : FuncId} {ds : List DV} {d : DV} (h : vfact C.P K fuel f ds d = true) (σ : Store) : acalls C f ds σ (fun d' σ' => d' = d ∧ σ' = σ) := by
  unfold vfact at h
  split at h
  · rename_i d' h' hb
    simp only [Bool.and_eq_true] at h
    have hd := dvB_eq _ _ h.2
    subst hd
    obtain ⟨_, g⟩ := vbody_sound hK (vcode_all hK fuel).1 hb
    have r0 : NRel (fun _ => none) 0 (VH.st ⟨0, .nil⟩) (fun _ => none) := ⟨fun k p hk => by simp at hk, fun k o hk => by simp [VH.st, Tr.get_nil] at hk, fun k k' o o' x e e' hk => by simp [VH.st, Tr.get_nil] at hk⟩
    have g0 := g _ _ ds r0 (SRL_refl h.1.1)
    -- with nothing owned, whatever is owned beside
    refine ⟨g0.1, fun F w vs hs hr hS => ?_⟩
    have ho : ∀ x, own (own F σ) (fun _ => none) x ↔ own F σ x := fun x => ⟨fun h => h.elim id (fun h => absurd rfl h), .inl⟩
    have hfun : own (own F σ) (fun _ => none) = own F σ := by funext x; exact propext (ho x)
    have hS' : Sim C (own F σ) (fun _ => none) w := ⟨fun x hx => ⟨by
        rcases hx with hx | hx
        · exact (hS.fr x hx).1
        · obtain ⟨o, ho⟩ := Option.ne_none_iff_exists'.1 hx
          exact (hS.ob x o ho).lt, rfl⟩, fun x o ho => by simp at ho, fun x o hx => ⟨(hS.gl x o hx).1, fun h => (hS.gl x o hx).2 ((ho x).1 h)⟩⟩
    refine (g0.2 (own F σ) w vs hs (fun i v d hv hd => by rw [hfun]; exact hr i v d hv hd) hS').mono ?_
    rintro e w' ⟨v, d1, σ1, he, hv, hS1, hst, θ', _, hsr, _⟩
    have hd1 := hsr.eq_of_nb h.1.2
    subst hd1
    have hk : ∀ x, x < w.heap.size → w'.heap[x]? = w.heap[x]? := fun x hx => (hst.keep x hx rfl).1
    have hst' : Step σ w σ w' := ⟨hst.os, hst.tape, hst.output, hst.size, fun x hx h0 => ⟨hk x hx, h0⟩⟩
    -- what was new is let go
    have hnew : ∀ x, x < w.heap.size → σ1 x = none := fun x hx => (hst.keep x hx rfl).2
    refine ⟨v, _, σ, he, ?_, ⟨fun x hx => ?_, fun x o hx => ?_, fun x o hx => ?_⟩, hst', rfl, rfl⟩
    · refine hv.mono fun x hx _ => ⟨rfl, fun h2 => hx (.inl h2)⟩
    · have := hS.fr x hx
      exact ⟨Nat.lt_of_lt_of_le this.1 hst.size, this.2⟩
    · exact (hS.ob x o hx).mono (fun y hy hlt => ⟨hk y hlt, hy⟩) (hk x (hS.ob x o hx).lt)
    · exact ⟨(hk x (heap_lt (hS.gl x o hx).1)).trans (hS.gl x o hx).1, (hS.gl x o hx).2⟩
  · simp at h
end
end Go.Arb
end

section
namespace Go.Arb
set_option linter.unusedVariables false
set_option linter.unusedSimpArgs false
open Go Go.Lib

/-! ### Settings as tables -/
def memN : List Nat → Nat → Bool
  | [], _ => false
  | a :: l, n => Nat.beq a n || memN l n
def lkN : List (Nat × Nat) → Nat → Nat
  | [], _ => 0
  | p :: l, n => if Nat.beq p.1 n = true then p.2 else lkN l n
def lkR : List (Nat × Rg) → Nat → Option Rg
  | [], _ => none
  | p :: l, n => if Nat.beq p.1 n = true then some p.2 else lkR l n
noncomputable def lkA : List (List DV × DV) → List DV → Option DV
  | [], _ => none
  | p :: l, ds => if dvB.dvBL p.1 ds = true then some p.2 else lkA l ds
abbrev Tab := List (Nat × List (List DV × DV))
noncomputable def lkO : Tab → Nat → List DV → Option DV
  | [], _, _ => none
  | p :: l, f, ds => if Nat.beq p.1 f = true then (match lkA p.2 ds with | some d => some d | none => lkO l f ds) else lkO l f ds

theorem lkN_mem {l : List (Nat × Nat)} {n v : Nat} (h : lkN l n = v) (h0 : v ≠ 0) : (n, v) ∈ l := by
  induction l with
  | nil => simp [lkN] at h; exact absurd h.symm h0
  | cons p l ih =>
    simp only [lkN] at h
    split at h
    · rename_i he; have := Nat.eq_of_beq_eq_true he; subst this; subst h; simp
    · exact List.mem_cons_of_mem _ (ih h)

structure Cfg where
  own : List Nat
  typ : List Nat
  frz : List Nat
  frzA : List Nat
  reg : List (Nat × Rg)
  ext : List (Nat × Nat)

noncomputable def Cfg.kf (c : Cfg) (T : Tab) : Kf where
  own f t := memN c.own (f * 1000 + t)
  typ t := memN c.typ t
  frz f := memN c.frz f
  frzA f := memN c.frzA f
  reg f i := lkR c.reg (f * 1000 + i)
  orc f ds := lkO T f ds
  ext f := lkN c.ext f

noncomputable def okBodies (P : Program) (c : Cfg) : List Nat → Bool
  | [] => true
  | f :: l => (match P.funcs[f]? with
    | some fn => !(fn.name == "runtime.NumGoroutine") && (match fn.body with
      | some b => okReg (c.kf []) f b
      | none => true)
    | none => true) && okBodies P c l

theorem okReg_T (c : Cfg) (T T' : Tab) (f : Nat) : ∀ b, okReg (c.kf T) f b = okReg (c.kf T') f b := by
  intro b
  induction b with
  | seq a b iha ihb => simp only [okReg, iha, ihb]
  | cond x a b iha ihb => simp only [okReg, iha, ihb]
  | block i a ih => simp only [okReg, ih]
  | loop a ih => simp only [okReg, ih]
  | scope a ih => simp only [okReg, ih]
  | region i o d => rfl
  | _ => rfl

def extFn : Nat → Option (Array Value → Sem Value)
  | 1 => some Extern.AbiNoEscape.same
  | 2 => some (Extern.Atomic.update (Op.intArith .add) .i64 true)
  | 3 => some (Extern.Atomic.loadT (.int .u32))
  | 4 => some (Extern.Atomic.loadT (.int .i64))
  | _ => none

/-- The settings' own part is right. -/
structure CfgOk (C : Cx) (c : Cfg) : Prop where
  mixed : C.P.follows .mixedOrders = true
  size : C.P.funcs.size ≤ 2000
  bodies : okBodies C.P c (List.range 2000) = true
  ext : ∀ p ∈ c.ext, ∀ e, extFn p.2 = some e → Mdl C.P p.1 e
  once : ∀ p ∈ c.ext, p.2 = 10 → OnceOk C p.1
  coll : ∀ p ∈ c.ext, p.2 = 11 → ∀ q ∈ c.ext, q.2 = 12 → CollOk C p.1 q.1

theorem okBodies_mem {P : Program} {c : Cfg} : ∀ {l : List Nat}, okBodies P c l = true → ∀ f ∈ l, ∀ fn, P.funcs[f]? = some fn → (fn.name == "runtime.NumGoroutine") = false ∧ ∀ b, fn.body = some b → okReg (c.kf []) f b = true := by
  intro l
  induction l with
  | nil => intro _ f hf; cases hf
  | cons a l ih =>
    intro h f hf fn hfn
    simp only [okBodies, Bool.and_eq_true] at h
    rcases List.mem_cons.1 hf with rfl | hf
    · have h1 := h.1
      rw [hfn] at h1
      simp only [Bool.and_eq_true, Bool.not_eq_true'] at h1
      refine ⟨h1.1, fun b hb => ?_⟩
      have h2 := h1.2
      rw [hb] at h2
      exact h2
    · exact ih h.2 f hf fn hfn

def TabOk (C : Cx) (T : Tab) : Prop := ∀ f ds d, lkO T f ds = some d → nbL ds = true → nb d = true → ∀ σ, fcalls C f ds σ (fun d' σ' => d' = d ∧ σ' = σ)

theorem kv {C : Cx} {c : Cfg} (hc : CfgOk C c) {T : Tab} (hT : TabOk C T) : KV C (c.kf T) where
  mixed := hc.mixed
  names := fun f fn hf => (okBodies_mem hc.bodies f (by simp; exact Nat.lt_of_lt_of_le (Array.getElem?_eq_some_iff.1 hf).1 hc.size) fn hf).1
  orc := hT
  ext1 := fun f h => hc.ext _ (lkN_mem h (by decide)) _ rfl
  ext2 := fun f h => hc.ext _ (lkN_mem h (by decide)) _ rfl
  ext3 := fun f h => hc.ext _ (lkN_mem h (by decide)) _ rfl
  ext4 := fun f h => hc.ext _ (lkN_mem h (by decide)) _ rfl
  once := fun f h => hc.once _ (lkN_mem h (by decide)) rfl
  coll := fun f g h h' => hc.coll _ (lkN_mem h (by decide)) rfl _ (lkN_mem h' (by decide)) rfl
  reg := fun f fn b hf hb => by
    rw [okReg_T c T []]
    exact (okBodies_mem hc.bodies f (by simp; exact Nat.lt_of_lt_of_le (Array.getElem?_eq_some_iff.1 hf).1 hc.size) fn hf).2 b hb

/-- Facts that the machine shows, over those that are known. -/
noncomputable def factsA (P : Program) (K : Kf) (fuel f : Nat) : List (List DV × DV) → Bool
  | [] => true
  | p :: l => vfact P K fuel f p.1 p.2 && factsA P K fuel f l
noncomputable def factsT (P : Program) (K : Kf) (fuel : Nat) : Tab → Bool
  | [] => true
  | p :: l => factsA P K fuel p.1 p.2 && factsT P K fuel l

theorem factsA_mem {P K fuel f} : ∀ {l : List (List DV × DV)}, factsA P K fuel f l = true → ∀ ds d, lkA l ds = some d → vfact P K fuel f ds d = true := by
  intro l
  induction l with
  | nil => intro _ ds d h; simp [lkA] at h
  | cons p l ih =>
    intro h ds d hd
    simp only [factsA, Bool.and_eq_true] at h
    simp only [lkA] at hd
    split at hd
    · rename_i he; have := dvBL_eq _ _ he; subst this; simp at hd; subst hd; exact h.1
    · exact ih h.2 ds d hd
theorem factsT_mem {P K fuel} : ∀ {T : Tab}, factsT P K fuel T = true → ∀ f ds d, lkO T f ds = some d → vfact P K fuel f ds d = true := by
  intro T
  induction T with
  | nil => intro _ f ds d h; simp [lkO] at h
  | cons p l ih =>
    intro h f ds d hd
    simp only [factsT, Bool.and_eq_true] at h
    simp only [lkO] at hd
    split at hd
    · rename_i he
      have := Nat.eq_of_beq_eq_true he
      subst this
      split at hd
      · rename_i d1 h1; simp at hd; subst hd; exact factsA_mem h.1 ds _ h1
      · exact ih h.2 _ _ _ hd
    · exact ih h.2 f ds d hd
theorem lkO_append {T U : Tab} {f ds d} (h : lkO (T ++ U) f ds = some d) : lkO T f ds = some d ∨ lkO U f ds = some d := by
  induction T with
  | nil => exact .inr h
  | cons p l ih =>
    simp only [List.cons_append, lkO] at h ⊢
    by_cases he : Nat.beq p.1 f = true
    · simp only [he, if_true] at h ⊢
      cases h1 : lkA p.2 ds with
      | some d1 => rw [h1] at h; left; exact h
      | none => rw [h1] at h; simp only at h ⊢; exact ih h
    · rw [if_neg he] at h ⊢
      exact ih h

theorem TabOk.nil (C : Cx) : TabOk C [] := fun f ds d h => by simp [lkO] at h
theorem TabOk.add {C : Cx} {c : Cfg} (hc : CfgOk C c) {T : Tab} (hT : TabOk C T) {U : Tab} {fuel : Nat} (hU : factsT C.P (c.kf T) fuel U = true) : TabOk C (U ++ T) := fun f ds d h h1 h2 σ => by
  rcases lkO_append h with h | h
  · exact fcalls_of (vfact_sound (kv hc hT) (factsT_mem hU f ds d h) σ)
  · exact hT f ds d h h1 h2 σ
end Go.Arb
end

section
namespace Go.Arb
set_option linter.unusedVariables false
set_option linter.unusedSimpArgs false
open Go Go.Lib

/-! ### What is read at a call's beginning, as the walk's data -/
def RLs (I : Nat → Prop) (w : World) (cs : List Value) (ds : List DV) : Prop := cs.length = ds.length ∧ ∀ (j : Nat) v d, cs[j]? = some v → ds[j]? = some d → R I w v d
def NoO (_ : Nat) : Prop := False
theorem own_none : own NoO (fun _ => none) = NoO := by funext x; simp [own, NoO]

theorem RLs.nil {I w} : RLs I w [] [] := ⟨rfl, fun j v d h => by simp at h⟩
theorem RLs.one {I w v d} (h : R I w v d) : RLs I w [v] [d] := ⟨rfl, fun j v' d' h1 h2 => by
  match j with
  | 0 => simp at h1 h2; subst h1 h2; exact h
  | _ + 1 => simp at h1⟩
theorem RLs.append {I w cs ds cs' ds'} (h : RLs I w cs ds) (k : RLs I w cs' ds') : RLs I w (cs ++ cs') (ds ++ ds') := ⟨by simp [h.1, k.1], fun j v d h1 h2 => by
  by_cases hj : j < cs.length
  · rw [List.getElem?_append_left hj] at h1
    rw [List.getElem?_append_left (by rw [← h.1]; exact hj)] at h2
    exact h.2 j v d h1 h2
  · rw [List.getElem?_append_right (by omega)] at h1
    rw [List.getElem?_append_right (by rw [← h.1]; omega), ← h.1] at h2
    exact k.2 _ v d h1 h2⟩

section
variable {H : Type} (enc : TypeId × Value → H) (P : Program) (w : World) (base : Nat) (sp : Nat → Bool) (held : Bool)

theorem addr_add_add (a : Addr) (m j : Nat) : (a.add m).add j = a.add (m + j) := by
  unfold Addr.add
  split <;> split <;> split <;> simp_all <;> omega

/-- What reads as type t within n steps has the shape D. -/
def ReadsF (n : Nat) (t : TypeId) (D : List DV → Prop) : Prop := ∀ cs x, DataW.trod enc P w base sp held n t cs = some x → ∃ ds, D ds ∧ RLs NoO w cs ds
variable {enc P w base sp held}

theorem ReadsF.mono {n t} {D D' : List DV → Prop} (h : ReadsF enc P w base sp held n t D) (hd : ∀ ds, D ds → D' ds) : ReadsF enc P w base sp held n t D' := fun cs x hx => by
  obtain ⟨ds, h1, h2⟩ := h cs x hx
  exact ⟨ds, hd _ h1, h2⟩

theorem reads_int {n t k} (ht : P.underlying t = some (.int k)) : ReadsF enc P w base sp held n t (fun ds => ∃ z, ds = [.i k z]) := fun cs x hx => by
  obtain ⟨z, rfl, _, _⟩ := DataW.trod_int ht hx
  exact ⟨_, ⟨z, rfl⟩, .one (.i _ _)⟩
theorem reads_bool {n t} (ht : P.underlying t = some .bool) : ReadsF enc P w base sp held n t (fun ds => ∃ z, ds = [.b z]) := fun cs x hx => by
  obtain ⟨z, rfl, _⟩ := DataW.trod_bool ht hx
  exact ⟨_, ⟨z, rfl⟩, .one (.b _)⟩
theorem reads_str {n t} (ht : P.underlying t = some .string) : ReadsF enc P w base sp held n t (fun ds => ∃ l, ds = [.s l]) := fun cs x hx => by
  obtain ⟨z, rfl, _⟩ := DataW.trod_string ht hx
  exact ⟨_, ⟨_, rfl⟩, .one (.s _ _ rfl)⟩

theorem reads_slice {n t e} {D : List DV → Prop} {sz : Nat} (ht : P.underlying t = some (.slice e)) (hc : P.cellsOf e = sz) (hsz : 0 < sz) (hl : ∀ ds, D ds → ds.length = sz)
    (he : ∀ m, n = m + 1 → ReadsF enc P w base sp held m e D) : ReadsF enc P w base sp held n t (fun ds => ∃ ess : List (List DV), (∀ es ∈ ess, D es) ∧ ds = [.sl ess]) := fun cs x hx => by
  rcases DataW.trod_slice ht hx with ⟨rfl, _⟩ | ⟨a, len, cap, elems, rest, m, rfl, rfl, rfl, hb, hlc, hm, hlen, hel, _, _⟩
  · exact ⟨_, ⟨[], by simp, rfl⟩, .one (.sl0 _ _)⟩
  · by_cases h0 : len = 0
    · subst h0
      exact ⟨_, ⟨[], by simp, rfl⟩, .one (.sl0 _ _)⟩
    · have each : ∀ i, i < len → ∃ es cs, D es ∧ (w.cells? base (a.add (i * P.cellsOf e)) (P.cellsOf e)) = some cs ∧ RLs NoO w cs es := fun i hi => by
        have h1 := hel i hi
        have h2 : ∃ y, elems[i]? = some y := ⟨elems[i]'(by omega), List.getElem?_eq_getElem _⟩
        obtain ⟨y, hy⟩ := h2
        rw [hy, Option.bind_eq_some_iff] at h1
        obtain ⟨cs, hcs, hx2⟩ := h1
        obtain ⟨es, hD, hR⟩ := he m rfl cs y hx2
        exact ⟨es, cs, hD, hcs, hR⟩
      rw [hc] at each
      -- the row's cells, one by one
      have cell : ∀ i j, i < len → j < sz → ∃ v, w.cell? (a.add (i * sz + j)) = some v := fun i j hi hj => by
        obtain ⟨es, cs, hD, hcs, hR⟩ := each i hi
        obtain ⟨_, hcl, hcell⟩ := World.cells?_some hcs
        have h1 := hcell j hj
        rw [addr_add_add] at h1
        exact ⟨cs[j]'(by omega), by rw [h1, List.getElem?_eq_getElem]⟩
      have hspot : a.spot = none ∧ ∃ cells E fz, w.heap[a.block]? = some (.cells cells E fz) := by
        obtain ⟨v, hv⟩ := cell 0 0 (by omega) hsz
        simp only [Nat.zero_mul, Nat.add_zero, Addr.add, if_true] at hv
        unfold World.cell? at hv
        split at hv
        · rename_i c E fz hh
          split at hv
          · simp at hv
          · rename_i hs
            exact ⟨by cases h : a.spot with
              | none => rfl
              | some s => simp [h] at hs, c, E, fz, hh⟩
        · simp at hv
      obtain ⟨hs, cells, E, fz, hh⟩ := hspot
      have ha : a = ⟨a.block, a.off, none⟩ := by cases a; simp at hs; subst hs; rfl
      have cellv : ∀ i j v, i < len → j < sz → w.cell? (a.add (i * sz + j)) = some v → cells[a.off + (i * sz + j)]? = some v := fun i j v hi hj hv => by
        have hadd : a.add (i * sz + j) = ⟨a.block, a.off + (i * sz + j), none⟩ := by
          unfold Addr.add
          split
          · rename_i h; rw [h]; exact ha
          · rfl
        rw [hadd] at hv
        simpa [World.cell?, hh] using hv
      -- the elements' data
      obtain ⟨ess, hel2⟩ : ∃ ess : List (List DV), ess.length = len ∧ ∀ i, i < len → ∃ es cs, ess[i]? = some es ∧ D es ∧ (w.cells? base (a.add (i * sz)) sz) = some cs ∧ RLs NoO w cs es := by
        have : ∀ k, k ≤ len → ∃ ess : List (List DV), ess.length = k ∧ ∀ i, i < k → ∃ es cs, ess[i]? = some es ∧ D es ∧ (w.cells? base (a.add (i * sz)) sz) = some cs ∧ RLs NoO w cs es := by
          intro k
          induction k with
          | zero => exact fun _ => ⟨[], rfl, fun i hi => by omega⟩
          | succ k ih =>
            intro hk
            obtain ⟨ess, hl1, h1⟩ := ih (by omega)
            obtain ⟨es, cs, hD, hcs, hR⟩ := each k (by omega)
            refine ⟨ess ++ [es], by simp [hl1], fun i hi => ?_⟩
            by_cases hik : i < k
            · obtain ⟨es', cs', g1, g2⟩ := h1 i hik
              exact ⟨es', cs', by rw [List.getElem?_append_left (by omega)]; exact g1, g2⟩
            · have : i = k := by omega
              subst this
              exact ⟨es, cs, by rw [List.getElem?_append_right (by omega), hl1]; simp, hD, hcs, hR⟩
        exact this len (Nat.le_refl _)
      obtain ⟨hel3, hel4⟩ := hel2
      refine ⟨[.sl ess], ⟨ess, fun es hes => ?_, rfl⟩, .one ?_⟩
      · obtain ⟨i, hi, rfl⟩ := List.mem_iff_getElem.1 hes
        obtain ⟨es', cs', g1, g2, _⟩ := hel4 i (by omega)
        rw [List.getElem?_eq_getElem hi] at g1
        cases g1; exact g2
      · rw [ha]
        refine .sl a.block a.off len cap sz ess cells E fz (fun i j => (w.cell? (a.add (i * sz + j))).getD undef) (fun h => h) hh hel3.symm hlc (fun es hes => ?_) (fun i j hi hj => ?_) (fun i j es d hi hj => ?_) hm
        · obtain ⟨i, hi, rfl⟩ := List.mem_iff_getElem.1 hes
          obtain ⟨es', cs', g1, g2, _⟩ := hel4 i (by omega)
          rw [List.getElem?_eq_getElem hi] at g1
          cases g1; exact hl _ g2
        · obtain ⟨v, hv⟩ := cell i j (by omega) hj
          rw [cellv i j v (by omega) hj hv, hv]; rfl
        · have hi' : i < len := by have := (List.getElem?_eq_some_iff.1 hi).1; omega
          obtain ⟨es', cs', g1, g2, g3, g4⟩ := hel4 i hi'
          rw [hi] at g1; cases g1
          have hj' : j < sz := by have := (List.getElem?_eq_some_iff.1 hj).1; rw [hl _ g2] at this; exact this
          obtain ⟨_, hcl, hcell⟩ := World.cells?_some g3
          have h1 := hcell j hj'
          rw [addr_add_add] at h1
          obtain ⟨v, hv⟩ := cell i j hi' hj'
          rw [hv] at h1 ⊢
          exact g4.2 j v d h1.symm hj

/-- Fields that lie side by side. -/
def chainB (P : Program) : List Field → Nat → Nat → Bool
  | [], acc, tot => Nat.beq acc tot
  | f :: fs, acc, tot => Nat.beq f.offset acc && chainB P fs (acc + P.cellsOf f.type) tot
inductive PartsD : List (List DV → Prop) → List DV → Prop where
  | nil : PartsD [] []
  | cons {D Ds d ds} (h : D d) (k : PartsD Ds ds) : PartsD (D :: Ds) (d ++ ds)

theorem reads_fields {n : Nat} : ∀ (fs : List Field) (Ds : List (List DV → Prop)) (acc : Nat) (cs : List Value), chainB P fs acc cs.length = true → fs.length = Ds.length →
    (∀ f ∈ fs, ∃ x, DataW.trod enc P w base sp held n f.type ((cs.drop f.offset).take (P.cellsOf f.type)) = some x) →
    (∀ (i : Nat) f D, fs[i]? = some f → Ds[i]? = some D → ReadsF enc P w base sp held n f.type D) → ∃ ds, PartsD Ds ds ∧ RLs NoO w (cs.drop acc) ds
  | [], [], acc, cs, hc, _, _, _ => ⟨[], .nil, by
      have := Nat.eq_of_beq_eq_true hc
      rw [this, List.drop_length]; exact .nil⟩
  | f :: fs, D :: Ds, acc, cs, hc, hl, hx, hr => by
    simp only [chainB, Bool.and_eq_true] at hc
    have ho := Nat.eq_of_beq_eq_true hc.1
    obtain ⟨x, h1⟩ := hx f (by simp)
    obtain ⟨d, hd, hR⟩ := hr 0 f D rfl rfl _ x h1
    obtain ⟨ds, hds, hR2⟩ := reads_fields fs Ds (acc + P.cellsOf f.type) cs hc.2 (by simpa using hl) (fun g hg => hx g (by simp [hg])) (fun i g E h2 h3 => hr (i + 1) g E (by simpa using h2) (by simpa using h3))
    refine ⟨d ++ ds, .cons hd hds, ?_⟩
    rw [ho] at hR
    have : cs.drop acc = (cs.drop acc).take (P.cellsOf f.type) ++ cs.drop (acc + P.cellsOf f.type) := by
      rw [← List.drop_drop, List.take_append_drop]
    rw [this]
    exact hR.append hR2

theorem reads_struct {n t} {fs : Array Field} {Ds : List (List DV → Prop)} (ht : P.underlying t = some (.struct fs)) (hch : chainB P fs.toList 0 (P.cellsOf t) = true) (hl : fs.toList.length = Ds.length)
    (hr : ∀ m, n = m + 1 → ∀ (i : Nat) f D, fs.toList[i]? = some f → Ds[i]? = some D → ReadsF enc P w base sp held m f.type D) : ReadsF enc P w base sp held n t (PartsD Ds) := fun cs x hx => by
  obtain ⟨xs, m, rfl, _, hlen, hxl, hel⟩ := DataW.trod_struct ht hx
  obtain ⟨ds, h1, h2⟩ := reads_fields (enc := enc) (base := base) (sp := sp) (held := held) (w := w) (n := m) fs.toList Ds 0 cs (by rw [hlen]; exact hch) hl (fun f hf => by
    obtain ⟨i, hi, rfl⟩ := List.mem_iff_getElem.1 hf
    have := hel i fs.toList[i] (by simp at hi ⊢)
    have hi' : i < xs.length := by rw [hxl]; simpa using hi
    rw [List.getElem?_eq_getElem hi'] at this
    exact ⟨_, this⟩) (hr m rfl)
  exact ⟨ds, h1, by simpa using h2⟩

inductive RepD (D : List DV → Prop) : Nat → List DV → Prop where
  | zero : RepD D 0 []
  | succ {k d ds} (h : D d) (r : RepD D k ds) : RepD D (k + 1) (d ++ ds)

theorem reads_reps {n : Nat} {e : TypeId} {D : List DV → Prop} (hr : ReadsF enc P w base sp held n e D) : ∀ (k off : Nat) (cs : List Value), cs.length = off + k * P.cellsOf e →
    (∀ i, i < k → ∃ x, DataW.trod enc P w base sp held n e ((cs.drop (off + i * P.cellsOf e)).take (P.cellsOf e)) = some x) → ∃ ds, RepD D k ds ∧ RLs NoO w (cs.drop off) ds
  | 0, off, cs, hl, _ => ⟨[], .zero, by rw [List.drop_of_length_le (by omega)]; exact .nil⟩
  | k + 1, off, cs, hl, hx => by
    obtain ⟨x, h1⟩ := hx 0 (by omega)
    obtain ⟨d, hd, hR⟩ := hr _ x h1
    simp only [Nat.zero_mul, Nat.add_zero] at hR
    obtain ⟨ds, hds, hR2⟩ := reads_reps hr k (off + P.cellsOf e) cs (by rw [hl, Nat.succ_mul]; omega) (fun i hi => by
      obtain ⟨y, hy⟩ := hx (i + 1) (by omega)
      rw [Nat.succ_mul] at hy
      exact ⟨y, by rw [show off + P.cellsOf e + i * P.cellsOf e = off + (i * P.cellsOf e + P.cellsOf e) by omega]; exact hy⟩)
    refine ⟨d ++ ds, .succ hd hds, ?_⟩
    have : cs.drop off = (cs.drop off).take (P.cellsOf e) ++ cs.drop (off + P.cellsOf e) := by
      rw [← List.drop_drop, List.take_append_drop]
    rw [this]
    exact hR.append hR2

theorem reads_array {n t k e} {D : List DV → Prop} (ht : P.underlying t = some (.array k e)) (hc : P.cellsOf t = k * P.cellsOf e)
    (hr : ∀ m, n = m + 1 → ReadsF enc P w base sp held m e D) : ReadsF enc P w base sp held n t (RepD D k) := fun cs x hx => by
  obtain ⟨xs, m, rfl, _, hlen, hxl, hel⟩ := DataW.trod_array ht hx
  obtain ⟨ds, h1, h2⟩ := reads_reps (hr m rfl) k 0 cs (by rw [hlen, hc]; omega) (fun i hi => by
    have := hel i hi
    rw [List.getElem?_eq_getElem (by omega)] at this
    exact ⟨_, by simpa using this⟩)
  exact ⟨ds, h1, by simpa using h2⟩
end
end Go.Arb
end

section
namespace Go.Arb
set_option linter.unusedVariables false
set_option linter.unusedSimpArgs false
open Go Go.Lib Go.ChangeShapes Go.WideShapes Go.RowKit

section
variable {H : Type} {enc : TypeId × Value → H} {P : Program}

/-- What a row asks behind the call, where nothing that was there has turned and one bool comes back. -/
theorem post_below {f : Func} {s : ChangeSpec} {apart fresh handsOn again : Bool} {W W' : World} {args : Array Value} {v : Value} {ds gs : List (DataW H)} {before pa : List MemPlace}
    (hW : DataW.Whole enc P f.params.toList s.vars apart W args.toList ds gs before) (hb : Below W.heap.size W W')
    (hres : ∀ (b : Nat) (sp : Nat → Bool) (hd : Bool), DataW.TrodAll enc P W' b sp hd f.resultTypes.toList (v.resultList f.resultTypes.size) (s.fn H (ds ++ gs)).results [])
    (hargs : ∀ sp : Nat → Bool, (∀ p ∈ before, sp p.block = true) → DataW.TrodAll enc P W' 0 sp true f.params.toList args.toList (s.fn H (ds ++ gs)).args pa)
    (hvars : ∀ sp : Nat → Bool, DataW.TrodVars enc P W' sp s.vars (s.fn H (ds ++ gs)).vars [])
    (hps : before = pa)
    (hok : ∀ (j : Nat) (t : TypeId) (r : Value), f.resultTypes[j]? = some t → (v.resultList f.resultTypes.size)[j]? = some r → Value.okWide P W' .any 0 t r) :
    s.post enc P f apart fresh handsOn again W args v W' := by
  have hold : ∀ p ∈ before, (fun b => decide (b < W.heap.size)) p.block = true := fun p hp => by simpa using hW.lt p hp
  refine ⟨ds, gs, before, [], pa, [], hW, hres _ _ _, hargs _ hold, hvars _, World.keptBut_mono (fun p hp => ⟨hp, ?_⟩) (hb.frame (· ∈ before)), fun _ => ?_⟩
  · rw [hps] at hp
    exact Or.inr (by simpa using hp)
  · have hlt := hW.lt
    obtain ⟨_, _, _, _, _, hz, hn⟩ := hW
    refine ⟨hok, _, _, ([] ++ pa) ++ [], ⟨[] ++ pa, [], trodAll_append (hargs _ (fun _ _ => rfl)) (hres _ _ _), hvars _, rfl, ?_, ?_⟩, ?_⟩
    · intro b off hp
      have hp' : MemPlace.cell b off ∈ before := by rw [hps]; simpa using hp
      rw [hb.frozen (hlt _ hp')]
      exact hz b off hp'
    · intro ha
      have := hn ha
      rw [hps] at this
      simpa using this
    · intro p hp _
      rw [hps]
      simpa using hp

/-- A world at a call's beginning, nothing owned. -/
theorem sim0 (P : Program) (N : Nat) (W : World) : Sim ⟨P, N, fun _ => none⟩ NoO (fun _ => none) W :=
  ⟨fun x hx => hx.elim, fun x o h => by simp at h, fun x o h => by simp at h⟩

/-- A contract on the walk's data, at a call. -/
theorem calls_of_acalls {N : Nat} {f : FuncId} {ds : List DV} {d : DV} (h : ∀ σ, acalls ⟨P, N, fun _ => none⟩ f ds σ (fun d' σ' => d' = d ∧ σ' = σ)) {W : World} {args : Array Value} (hr : RLs NoO W args.toList ds) :
    Calls P f args W fun e W' => ∃ v, e = .returned v ∧ R NoO W' v d ∧ Below W.heap.size W W' := by
  have := (h (fun _ => none)).2 NoO W args (by simpa using hr.1) (fun i v d hv hd => by
    rw [own_none]; exact hr.2 i v d (by simpa using hv) hd) (sim0 P N W)
  refine this.mono ?_
  rintro e W' ⟨v, d', σ', he, hv, _, hst, rfl, rfl⟩
  rw [own_none] at hv
  exact ⟨v, he, hv, hst.below⟩
end
end Go.Arb
end
