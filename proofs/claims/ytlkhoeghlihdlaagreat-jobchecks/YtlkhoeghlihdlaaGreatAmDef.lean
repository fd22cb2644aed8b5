import Derived.CallsIn
namespace Go.Am
set_option autoImplicit false

/-- names of blocks and slots: numbers, written as the way to them in a tree -/
inductive P where
  | h | l (p : P) | r (p : P)
  deriving Inhabited, DecidableEq

/-- values of one cell; a block is named by its name in the abstract heap -/
inductive W where
  | int (k : IntKind) (n : Int) | bool (b : Bool) | str (s : List UInt8)
  | nilp | ptr (b : P) (o : Nat) | nils | sl (b : P) (o z len cap : Nat) (ex : Bool)
  | nilm | map (r : P) | nilf | fnc (f : P) | fn (f b : P) | yld (l : P) | nili | it (l : P)
  deriving Inhabited
inductive U where
  | w (x : W) | a (cs : List W)
  deriving Inhabited
/-- what a slot holds -/
inductive V where
  | w (x : W) | a (cs : List W) | t (vs : List U)
  deriving Inhabited

noncomputable def bnd {α β : Type} (x : Option α) (f : α → Option β) : Option β := Option.rec (motive := fun _ => Option β) none f x
noncomputable def bnd2 {α β γ : Type} (x : Option (α × β)) (f : α → β → Option γ) : Option γ :=
  Option.rec (motive := fun _ => Option γ) none (fun p => Prod.rec (motive := fun _ => Option γ) f p) x
/-- the value first, then what is done with it -/
noncomputable def natK {β : Type} (n : Nat) (f : Nat → Option β) : Option β := Nat.rec (motive := fun _ => Option β) (f 0) (fun m _ => f (Nat.succ m)) n
noncomputable def intK {β : Type} (n : Int) (f : Int → Option β) : Option β :=
  Int.rec (motive := fun _ => Option β) (fun n => natK n (fun n => f (Int.ofNat n))) (fun n => natK n (fun n => f (Int.negSucc n))) n
noncomputable def boolK {β : Type} (b : Bool) (f : Bool → Option β) : Option β := Bool.rec (motive := fun _ => Option β) (f false) (f true) b
noncomputable def guardB {β : Type} (b : Bool) (f : Option β) : Option β := Bool.rec (motive := fun _ => Option β) none f b
noncomputable def nextK {β : Type} (p : P) (f : P → Option β) : Option β :=
  bnd (P.rec (motive := fun _ => Option P) (some (.l .h)) (fun q _ => some (.r q)) (fun _ ih => bnd ih (fun q => some (.l q))) p) f

noncomputable def U.v (u : U) : V := U.rec (motive := fun _ => V) V.w V.a u
noncomputable def onW {β : Type} (v : V) (f : W → Option β) : Option β := V.rec (motive := fun _ => Option β) f (fun _ => none) (fun _ => none) v
noncomputable def onU {β : Type} (v : V) (f : U → Option β) : Option β := V.rec (motive := fun _ => Option β) (fun x => f (.w x)) (fun cs => f (.a cs)) (fun _ => none) v
noncomputable def onCells {β : Type} (v : V) (f : List W → Option β) : Option β := V.rec (motive := fun _ => Option β) (fun x => f [x]) f (fun _ => none) v
noncomputable def onAgg {β : Type} (v : V) (f : List W → Option β) : Option β := V.rec (motive := fun _ => Option β) (fun _ => none) f (fun _ => none) v
noncomputable def onTup {β : Type} (v : V) (f : List U → Option β) : Option β := V.rec (motive := fun _ => Option β) (fun _ => none) (fun _ => none) f v
section els
variable {β : Type}
def wPtr (f : P → Nat → Option β) (x : W) : Option β := match x with | .ptr b o => f b o | _ => none
def wMap (f : P → Option β) (x : W) : Option β := match x with | .map r => f r | _ => none
def wBool (t e : Option β) (x : W) : Option β := match x with | .bool b => Bool.casesOn b e t | _ => none
def wInt (f : IntKind → Int → Option β) (x : W) : Option β := match x with | .int k n => f k n | _ => none
def wNat (f : Nat → Option β) (x : W) : Option β := match x with | .int _ n => Int.casesOn n f (fun _ => none) | _ => none
def wSl (f : P → Nat → Nat → Nat → Nat → Bool → Option β) (x : W) : Option β := match x with | .sl b o z l c e => f b o z l c e | _ => none
noncomputable def onPtr (v : V) (f : P → Nat → Option β) : Option β := onW v (wPtr f)
noncomputable def onMap (v : V) (f : P → Option β) : Option β := onW v (wMap f)
noncomputable def onBool (v : V) (t e : Option β) : Option β := onW v (wBool t e)
noncomputable def onInt (v : V) (f : IntKind → Int → Option β) : Option β := onW v (wInt f)
noncomputable def onNat (v : V) (f : Nat → Option β) : Option β := onW v (wNat f)
noncomputable def onSl (v : V) (f : P → Nat → Nat → Nat → Nat → Bool → Option β) : Option β := onW v (wSl f)
end els

inductive Tr (α : Type) where
  | e | n (l : Tr α) (v : Option α) (r : Tr α)
  deriving Inhabited
namespace Tr
variable {α : Type}
noncomputable def get (p : P) : Tr α → Option α :=
  P.rec (motive := fun _ => Tr α → Option α) (fun t => Tr.rec (motive := fun _ => Option α) none (fun _ v _ _ _ => v) t)
    (fun _ ih t => Tr.rec (motive := fun _ => Option α) none (fun l _ _ _ _ => ih l) t)
    (fun _ ih t => Tr.rec (motive := fun _ => Option α) none (fun _ _ r _ _ => ih r) t) p
noncomputable def set (x : Option α) (p : P) : Tr α → Option (Tr α) :=
  P.rec (motive := fun _ => Tr α → Option (Tr α)) (fun t => Tr.rec (motive := fun _ => Option (Tr α)) (some (.n .e x .e)) (fun l _ r _ _ => some (.n l x r)) t)
    (fun _ ih t => Tr.rec (motive := fun _ => Option (Tr α)) (bnd (ih .e) (fun l => some (.n l none .e))) (fun l v r _ _ => bnd (ih l) (fun l => some (.n l v r))) t)
    (fun _ ih t => Tr.rec (motive := fun _ => Option (Tr α)) (bnd (ih .e) (fun r => some (.n .e none r))) (fun l v r _ _ => bnd (ih r) (fun r => some (.n l v r))) t) p
end Tr

inductive Opd where
  | t (i : P) | c (v : V)
  deriving Inhabited

/-- what a key or a struct that is compared is made of (0: a whole number, 1: a bool, 2: a string): one cell, or several -/
inductive Q where
  | s (k : Nat) | f (ks : List Nat)
  deriving Inhabited
/-- the rarer operations -/
inductive B where
  | eqb (neq : Bool) (x y : Opd) | eqs (ks : List Nat) (neq : Bool) (x y : Opd) | eqn (k : Nat) (neq : Bool) (x y : Opd)
  | cvi (k : IntKind) (x : Opd) | mkf (f : P) (first caps : List Opd) | mkm
  | mks (T z bytes : Nat) (zc : List W) (l c : Opd)
  | fld (off : Nat) (n : Option Nat) (x : Opd)
  | idv (len z : Nat) (n : Option Nat) (x i : Opd) | ids (x i : Opd) | iada (len z : Nat) (x i : Opd)
  | lkp (q : Q) (zero : U) (ok : Bool) (m k : Opd) | mup (q : Q) (m k v : Opd)
  | men (q : Q) (zero : U) (m k : Opd) | est (m s v : Opd) | del (q : Q) (m k : Opd)
  | cpy (z : Nat) (d s : Opd) | clr (z : Nat) (zc : List W) (x : Opd)
  | mnx (mx : Bool) (xs : List Opd) | mln (mp : Bool) (x : Opd)
  | slc (z : Nat) (x : Opd) (lo hi mx : Option Opd) | sst (x : Opd) (lo hi : Option Opd)
  | eqp (neq : Bool) (x y : Opd) | sla (n z : Nat) (x : Opd) | b2s (x : Opd) | cvu (x : Opd) | cvp (u n : Nat) (x : Opd) | nes (x : Opd) | usd (x : Opd) | ust (e : Nat) (x y : Opd)
  | lki (q : Q) (k : IntKind) (m x : Opd)
  deriving Inhabited
inductive A where
  | mv (x : Opd) | ld (n : Option Nat) (a : Opd) | fad (off : Nat) (x : Opd) | call (f : Opd) (args : List Opd)
  | iad (z : Nat) (x i : Opd) | st (n : Nat) (a x : Opd) | len (x : Opd) | pick (c a b : Opd)
  | bin (o : BinOp) (x y : Opd) | un (o : UnOp) (x : Opd) | box (T : Nat) (x : Opd)
  | bld (z : List W) (ps : List (Nat × Nat × Opd)) | bsl (T z len : Nat) (zc : List W) (ps : List (Nat × Nat × Opd))
  | ext (x : Opd) (i : Nat) | app (T z bytes : Nat) (s x : Opd) | nck (x : Opd) | o (b : B)
  deriving Inhabited
structure I where
  d : Option P
  a : A
  g : Option (P × Bool)
  deriving Inhabited
inductive C where
  | skip | ops (l : List I) | drw (l : List I) (us : List (Option (List Nat)))
  | seq (a b : C) | cond (c : Opd) (a b : C) | blk (id : Nat) (b : C) | loop (b : C) | exit (id : Nat) | ret
  | rngf (f : Opd) (ps : List P) (asg body : C)
  | mfor (pre : List I) (m : Opd) (it nx ok te : P) (sl kl : List P) (id b : Nat) (l : List I) (c : C)
  | bad
  deriving Inhabited
structure F where
  res : List (P × Option (Option Nat))
  body : C
  deriving Inhabited
structure E where
  key : U
  val : U
  born : Nat
  deriving Inhabited
abbrev S := Tr V
inductive O where
  | dead
  | row (own : Bool) (T : Nat) (cs : List W)
  | map (es : List E) (clock : Nat)
  | caps (fs vs : List U)
  | lp (sl : S) (ps : List P) (asg body : C) (pend : Option C) (busy : Bool)
  deriving Inhabited
/-- the heap; log: what was written, nw: what was made -/
structure H where
  sz : P
  tr : Tr O
  log : List P
  nw : List P
  deriving Inhabited
namespace H
variable {β : Type}
/-- a new block: its name and the heap -/
noncomputable def new (h : H) (o : O) (f : P → H → Option β) : Option β :=
  H.rec (motive := fun _ => Option β) (fun sz tr log nw => bnd (tr.set (some o) sz) (fun tr => nextK sz (fun sz' => f sz ⟨sz', tr, log, sz :: nw⟩))) h
noncomputable def put (h : H) (b : P) (o : O) (f : H → Option β) : Option β :=
  H.rec (motive := fun _ => Option β) (fun sz tr log nw => bnd (tr.set (some o) b) (fun tr => f ⟨sz, tr, b :: log, nw⟩)) h
end H
section hp
variable {β : Type}
def onRowO (f : Bool → Nat → List W → Option β) (o : O) : Option β := match o with | .row own T cs => f own T cs | _ => none
def onMapO (f : List E → Nat → Option β) (o : O) : Option β := match o with | .map es c => f es c | _ => none
def onCapO (f : List U → List U → Option β) (o : O) : Option β := match o with | .caps k l => f k l | _ => none
def onLpO (f : S → List P → C → C → Option C → Bool → Option β) (o : O) : Option β := match o with | .lp a b c d e g => f a b c d e g | _ => none
noncomputable def atRow (h : H) (b : P) (f : Bool → Nat → List W → Option β) : Option β := bnd (h.tr.get b) (onRowO f)
noncomputable def atMap (h : H) (b : P) (f : List E → Nat → Option β) : Option β := bnd (h.tr.get b) (onMapO f)
/-- a row that may be written -/
noncomputable def atOwn (h : H) (b : P) (f : Nat → List W → Option β) : Option β := atRow h b (fun own T cs => guardB own (f T cs))
noncomputable def headO {α : Type} (l : List α) (f : α → Option β) : Option β := List.rec (motive := fun _ => Option β) none (fun v _ _ => f v) l
end hp

inductive X where | nrm | exit (id : Nat) | ret
  deriving Inhabited

noncomputable def opd (s : S) (x : Opd) : Option V := Opd.rec (motive := fun _ => Option V) (fun p => s.get p) some x
noncomputable def opds (s : S) (xs : List Opd) : Option (List V) :=
  List.rec (motive := fun _ => Option (List V)) (some []) (fun x _ ih => bnd (opd s x) (fun v => bnd ih (fun vs => some (v :: vs)))) xs
noncomputable def opdsU (s : S) (xs : List Opd) : Option (List U) :=
  List.rec (motive := fun _ => Option (List U)) (some []) (fun x _ ih => bnd (opd s x) (fun v => onU v (fun v => bnd ih (fun vs => some (v :: vs))))) xs
section lists
variable {α : Type}
noncomputable def takeX (n : Nat) : List α → Option (List α) :=
  Nat.rec (motive := fun _ => List α → Option (List α)) (fun _ => some [])
    (fun _ ih l => List.rec (motive := fun _ => Option (List α)) none (fun x l _ => bnd (ih l) (fun r => some (x :: r))) l) n
noncomputable def appX (a b : List α) : Option (List α) := List.rec (motive := fun _ => Option (List α)) (some b) (fun x _ ih => bnd ih (fun r => some (x :: r))) a
/-- overwrites the head of l by vs -/
noncomputable def over (vs : List α) : List α → Option (List α) :=
  List.rec (motive := fun _ => List α → Option (List α)) (fun l => some l)
    (fun v _ ih l => List.rec (motive := fun _ => Option (List α)) none (fun _ l _ => bnd (ih l) (fun r => some (v :: r))) l) vs
/-- overwrites l by vs from index off on; none if it does not fit -/
noncomputable def splice (off : Nat) (vs : List α) : List α → Option (List α) :=
  Nat.rec (motive := fun _ => List α → Option (List α)) (over vs)
    (fun _ ih l => List.rec (motive := fun _ => Option (List α)) none (fun x l _ => bnd (ih l) (fun r => some (x :: r))) l) off
noncomputable def dropX (n : Nat) : List α → List α :=
  Nat.rec (motive := fun _ => List α → List α) (fun l => l) (fun _ ih l => List.rec (motive := fun _ => List α) [] (fun _ l _ => ih l) l) n
noncomputable def lenX (l : List α) : Nat := List.rec (motive := fun _ => Nat) 0 (fun _ _ n => Nat.succ n) l
noncomputable def nthX (n : Nat) (l : List α) : Option α := headO (dropX n l) some
noncomputable def eraX (n : Nat) : List α → Option (List α) :=
  Nat.rec (motive := fun _ => List α → Option (List α)) (fun l => List.rec (motive := fun _ => Option (List α)) none (fun _ es _ => some es) l)
    (fun _ ih l => List.rec (motive := fun _ => Option (List α)) none (fun e es _ => bnd (ih es) (fun r => some (e :: r))) l) n
noncomputable def reps (c : Nat) (zc : List α) : Option (List α) := Nat.rec (motive := fun _ => Option (List α)) (some []) (fun _ ih => bnd ih (fun r => appX zc r)) c
end lists
noncomputable def cellN (n : Option Nat) (cs : List W) : Option V :=
  Option.rec (motive := fun _ => Option V) (headO cs (fun x => some (.w x))) (fun n => bnd (takeX n cs) (fun l => some (.a l))) n
noncomputable def fill (s : S) (ps : List (Nat × Nat × Opd)) : List W → Option (List W) :=
  List.rec (motive := fun _ => List W → Option (List W)) some
    (fun p _ ih cs => bnd (opd s p.2.2) (fun v => onCells v (fun l => guardB (Nat.beq (lenX l) p.2.1) (bnd (splice p.1 l cs) ih)))) ps

noncomputable def iInt (k : IntKind) (n : Int) : Option V := intK n (fun n => some (.w (.int k n)))
noncomputable def iBool (b : Bool) : Option V := boolK b (fun b => some (.w (.bool b)))
noncomputable def iop (o : BinOp) (k : IntKind) (a b : Int) : Option V :=
  match o with
  | .add => iInt k (k.wrap (a + b))
  | .sub => iInt k (k.wrap (a - b))
  | .mul => iInt k (k.wrap (a * b))
  | .quo => guardB (!(decide (b = 0))) (iInt k (k.wrap (a.tdiv b)))
  | .rem => guardB (!(decide (b = 0))) (iInt k (a.tmod b))
  | .eql => iBool (decide (a = b))
  | .neq => iBool (!(decide (a = b)))
  | .lss => iBool (decide (a < b))
  | .leq => iBool (decide (a ≤ b))
  | .gtr => iBool (decide (b < a))
  | .geq => iBool (decide (b ≤ a))
  | .and => iInt k (k.wrap (BitVec.ofInt k.bits a &&& BitVec.ofInt k.bits b).toNat)
  | .or => iInt k (k.wrap (BitVec.ofInt k.bits a ||| BitVec.ofInt k.bits b).toNat)
  | .xor => iInt k (k.wrap (BitVec.ofInt k.bits a ^^^ BitVec.ofInt k.bits b).toNat)
  | .andNot => iInt k (k.wrap (BitVec.ofInt k.bits a &&& ~~~(BitVec.ofInt k.bits b)).toNat)
  | _ => none
noncomputable def shf (o : BinOp) (k : IntKind) (a b : Int) : Option V :=
  match o with
  | .shl => guardB (decide (0 ≤ b)) (iInt k (k.wrap (a * 2 ^ (min b.toNat k.bits))))
  | .shr => guardB (decide (0 ≤ b)) (iInt k (a.fdiv (2 ^ (min b.toNat k.bits))))
  | _ => none
def isSh (o : BinOp) : Bool := match o with | .shl => true | .shr => true | _ => false
noncomputable def bopI (o : BinOp) (k j : IntKind) (a b : Int) : Option V :=
  Bool.rec (motive := fun _ => Option V) (guardB (decide (k = j)) (iop o k a b)) (shf o k a b) (isSh o)
noncomputable def bopS (o : BinOp) (a b : List UInt8) : Option V :=
  match o with
  | .eql => iBool (decide (a = b))
  | .neq => iBool (!(decide (a = b)))
  | .add => guardB (Nat.ble (Nat.add (lenX a) (lenX b)) 9223372036854775807) (bnd (appX a b) (fun l => some (.w (.str l))))
  | _ => none
noncomputable def bopW (o : BinOp) (x y : W) : Option V :=
  match x with
  | .int k a => wInt (fun j b => bopI o k j a b) y
  | .str a => match y with | .str b => bopS o a b | _ => none
  | _ => none

/-- equality of plain cells -/
noncomputable def eqI (x y : W) : Option Bool := match x with | .int k a => wInt (fun j b => guardB (decide (k = j)) (some (decide (a = b)))) y | _ => none
noncomputable def eqBo (x y : W) : Option Bool := match x with | .bool a => (match y with | .bool b => some (a == b) | _ => none) | _ => none
noncomputable def eqSt (x y : W) : Option Bool := match x with | .str a => (match y with | .str b => some (decide (a = b)) | _ => none) | _ => none
noncomputable def eqK (k : Nat) (x y : W) : Option Bool := Nat.rec (motive := fun _ => Option Bool) (eqI x y) (fun k _ => Nat.rec (motive := fun _ => Option Bool) (eqBo x y) (fun _ _ => eqSt x y) k) k
noncomputable def eqN (ks : List Nat) : List W → List W → Option Bool :=
  List.rec (motive := fun _ => List W → List W → Option Bool) (fun xs ys => List.rec (motive := fun _ => Option Bool) (List.rec (motive := fun _ => Option Bool) (some true) (fun _ _ _ => none) ys) (fun _ _ _ => none) xs)
    (fun k _ ih xs ys => List.rec (motive := fun _ => Option Bool) none (fun x xs _ => List.rec (motive := fun _ => Option Bool) none
      (fun y ys _ => bnd (eqK k x y) (fun r => Bool.rec (motive := fun _ => Option Bool) (some false) (ih xs ys) r)) ys) xs) ks
noncomputable def uW {β : Type} (f : W → Option β) (u : U) : Option β := U.rec (motive := fun _ => Option β) f (fun _ => none) u
noncomputable def uA {β : Type} (f : List W → Option β) (u : U) : Option β := U.rec (motive := fun _ => Option β) (fun _ => none) f u
noncomputable def keyEq (q : Q) (x y : U) : Option Bool :=
  Q.rec (motive := fun _ => Option Bool) (fun k => uW (fun x => uW (eqK k x) y) x) (fun ks => uA (fun x => uA (eqN ks x) y) x) q
/-- a key has its shape -/
noncomputable def keyOk (q : Q) (x : U) : Bool := Q.rec (motive := fun _ => Bool) (fun _ => true) (fun ks => U.rec (motive := fun _ => Bool) (fun _ => false) (fun cs => Nat.beq (lenX cs) (lenX ks)) x) q
def nilS (v : W) : Option Bool := match v with | .nils => some true | .sl _ _ _ _ _ _ => some false | _ => none
def nilM (v : W) : Option Bool := match v with | .nilm => some true | .map _ => some false | _ => none
def nilF (v : W) : Option Bool := match v with | .nilf => some true | .fn _ _ => some false | .fnc _ => some false | _ => none
def nilP (v : W) : Option Bool := match v with | .nilp => some true | .ptr _ _ => some false | _ => none
/-- k: 0: slices, 1: maps, 2: functions, else pointers -/
def isNil (k : Nat) (v : W) : Option Bool := match k with | 0 => nilS v | 1 => nilM v | 2 => nilF v | _ => nilP v
noncomputable def findK (q : Q) (k : U) (l : List E) : Nat → Option (Option (Nat × U)) :=
  List.rec (motive := fun _ => Nat → Option (Option (Nat × U))) (fun _ => some none)
    (fun e _ ih i => bnd (keyEq q k e.key) (fun r => Bool.rec (motive := fun _ => Option (Option (Nat × U))) (natK (Nat.succ i) ih)
      (E.rec (motive := fun _ => Option (Option (Nat × U))) (fun _ v _ => some (some (i, v))) e) r)) l
noncomputable def modE (f : E → E) (n : Nat) : List E → Option (List E) :=
  Nat.rec (motive := fun _ => List E → Option (List E)) (fun l => List.rec (motive := fun _ => Option (List E)) none (fun e es _ => E.rec (motive := fun _ => Option (List E)) (fun k v b => some (⟨k, v, b⟩ :: es)) (f e)) l)
    (fun _ ih l => List.rec (motive := fun _ => Option (List E)) none (fun e es _ => bnd (ih es) (fun r => some (e :: r))) l) n
noncomputable def findB (b : Nat) (l : List E) : Nat → Option Nat :=
  List.rec (motive := fun _ => Nat → Option Nat) (fun _ => none)
    (fun e _ ih i => Bool.rec (motive := fun _ => Option Nat) (natK (Nat.succ i) ih) (some i) (Nat.beq e.born b)) l

/-- a bound of a slice expression: dflt where it is not given, else at most y -/
noncomputable def bound (s : S) (x : Option Opd) (dflt y : Nat) {β : Type} (f : Nat → Option β) : Option β :=
  Option.rec (motive := fun _ => Option β) (f dflt) (fun x => bnd (opd s x) (fun v => onNat v (fun n => guardB (Nat.ble n y) (f n)))) x
def mulLe (a b c : Nat) : Bool := Nat.ble (Nat.mul a b) c
def roomB : Nat := 140737488355328

abbrev R := Option (V × H)
noncomputable def appNew (h : H) (T z m : Nat) (cs : List W) : R := natK m (fun m => h.new (.row true T cs) (fun b h => some (.w (.sl b 0 z m m false), h)))
noncomputable def appNil (h : H) (T z bytes : Nat) (xs : List W) (n : Nat) : R := guardB (mulLe n bytes roomB) (appNew h T z n xs)
noncomputable def appIn (h : H) (b : P) (o z len cap : Nat) (ex : Bool) (xs : List W) (n : Nat) : R :=
  atOwn h b (fun T cs => bnd (splice (Nat.add o (Nat.mul len z)) xs cs) (fun cs' => natK (Nat.add len n) (fun m => h.put b (.row true T cs') (fun h => some (.w (.sl b o z m cap ex), h)))))
noncomputable def appOut (h : H) (T : Nat) (b : P) (o z len : Nat) (ex : Bool) (xs : List W) (n : Nat) : R :=
  atRow h b (fun own T' cs => bnd (takeX (Nat.mul len z) (dropX o cs)) (fun old => bnd (appX old xs) (fun new =>
    Bool.rec (motive := fun _ => R)
      (guardB own (guardB (Nat.beq T T') (guardB (Nat.beq (Nat.add o (Nat.mul len z)) (lenX cs)) (h.put b .dead (fun h => appNew h T z (Nat.add len n) new)))))
      (appNew h T z (Nat.add len n) new) ex)))
noncomputable def appW (h : H) (T z bytes : Nat) (xs : List W) (n : Nat) (s : W) : R :=
  match s with
  | .nils => Nat.rec (motive := fun _ => R) (some (.w s, h)) (fun _ _ => appNil h T z bytes xs n) n
  | .sl b o z' len cap ex => Nat.rec (motive := fun _ => R) (some (.w s, h)) (fun _ _ => guardB (Nat.beq z z')
      (Bool.rec (motive := fun _ => R) (guardB (mulLe (Nat.add len n) bytes roomB) (appOut h T b o z len ex xs n)) (appIn h b o z len cap ex xs n) (Nat.ble (Nat.add len n) cap))) n
  | _ => none
noncomputable def byteW (l : List UInt8) : List W := l.map fun c => .int .u8 (Int.ofNat c.toNat)
noncomputable def cellsOf {β : Type} (h : H) (z : Nat) (f : List W → Nat → Option β) (x : W) : Option β :=
  match x with
  | .nils => f [] 0
  | .sl b o z' len _ _ => guardB (Nat.beq z z') (atRow h b (fun _ _ cs => bnd (takeX (Nat.mul len z) (dropX o cs)) (fun l => f l len)))
  | .str s => guardB (Nat.beq z 1) (f (byteW s) (lenX s))
  | _ => none

/-! the operations -/
noncomputable def aMv (s : S) (h : H) (x : Opd) : R := bnd (opd s x) (fun v => some (v, h))
noncomputable def aPick (s : S) (h : H) (c a b : Opd) : R := bnd (opd s c) (fun c => onBool c (aMv s h a) (aMv s h b))
noncomputable def aBox (s : S) (h : H) (T : Nat) (x : Opd) : R := bnd (opd s x) (fun v => onCells v (fun cs => h.new (.row true T cs) (fun b h => some (.w (.ptr b 0), h))))
noncomputable def aBld (s : S) (h : H) (z : List W) (ps : List (Nat × Nat × Opd)) : R := bnd (fill s ps z) (fun cs => some (.a cs, h))
noncomputable def aBsl (s : S) (h : H) (T z len : Nat) (zc : List W) (ps : List (Nat × Nat × Opd)) : R :=
  bnd (fill s ps zc) (fun cs => h.new (.row true T cs) (fun b h => some (.w (.sl b 0 z len len true), h)))
noncomputable def aLd (s : S) (h : H) (n : Option Nat) (a : Opd) : R :=
  bnd (opd s a) (fun v => onPtr v (fun b o => atRow h b (fun _ _ cs => bnd (cellN n (dropX o cs)) (fun v => some (v, h)))))
noncomputable def aSt (s : S) (h : H) (n : Nat) (a x : Opd) : R :=
  bnd (opd s a) (fun p => onPtr p (fun b o => bnd (opd s x) (fun v => onCells v (fun vs => guardB (Nat.beq (lenX vs) n)
    (atOwn h b (fun T cs => bnd (splice o vs cs) (fun cs' => h.put b (.row true T cs') (fun h => some (.t [], h)))))))))
noncomputable def aNck (s : S) (h : H) (x : Opd) : R := bnd (opd s x) (fun v => onPtr v (fun _ _ => some (v, h)))
noncomputable def aBin (s : S) (h : H) (o : BinOp) (x y : Opd) : R :=
  bnd (opd s x) (fun a => onW a (fun a => bnd (opd s y) (fun b => onW b (fun b => bnd (bopW o a b) (fun v => some (v, h))))))
noncomputable def unW (o : UnOp) (x : W) : Option V :=
  match o, x with
  | .not, .bool b => iBool (!b)
  | .neg, .int k n => iInt k (k.wrap (0 - n))
  | .xor, .int k n => iop .xor k (if k.signed then -1 else k.max) n
  | _, _ => none
noncomputable def aUn (s : S) (h : H) (o : UnOp) (x : Opd) : R := bnd (opd s x) (fun v => onW v (fun v => bnd (unW o v) (fun v => some (v, h))))
noncomputable def aFad (s : S) (h : H) (off : Nat) (x : Opd) : R := bnd (opd s x) (fun v => onPtr v (fun b o => natK (Nat.add o off) (fun o => some (.w (.ptr b o), h))))
noncomputable def aIad (s : S) (h : H) (z : Nat) (x i : Opd) : R :=
  bnd (opd s x) (fun v => onSl v (fun b o z' len _ _ => bnd (opd s i) (fun i => onNat i (fun i =>
    guardB (Nat.blt i len) (guardB (Nat.beq z z') (natK (Nat.add o (Nat.mul i z)) (fun o => some (.w (.ptr b o), h))))))))
noncomputable def lenV (n : Nat) (h : H) : R := natK n (fun n => some (.w (.int .i64 (Int.ofNat n)), h))
def lenW (h : H) (x : W) : R := match x with
  | .nils => some (.w (.int .i64 0), h)
  | .sl _ _ _ n _ _ => some (.w (.int .i64 (Int.ofNat n)), h)
  | _ => none
noncomputable def aLen (s : S) (h : H) (x : Opd) : R := bnd (opd s x) (fun v => onW v (fun x => lenW h x))
noncomputable def mlnW (h : H) (mp : Bool) (x : W) : R := match x with
  | .str t => guardB (!mp) (lenV (lenX t) h)
  | .nilm => guardB mp (some (.w (.int .i64 0), h))
  | .map r => guardB mp (atMap h r (fun es _ => lenV (lenX es) h))
  | _ => none
noncomputable def aMln (s : S) (h : H) (mp : Bool) (x : Opd) : R := bnd (opd s x) (fun v => onW v (fun x => mlnW h mp x))
noncomputable def aExt (s : S) (h : H) (x : Opd) (i : Nat) : R := bnd (opd s x) (fun v => onTup v (fun vs => bnd (nthX i vs) (fun u => U.rec (motive := fun _ => R) (fun x => some (.w x, h)) (fun cs => some (.a cs, h)) u)))
noncomputable def aApp (s : S) (h : H) (T z bytes : Nat) (x y : Opd) : R :=
  bnd (opd s x) (fun sv => onW sv (fun sv => bnd (opd s y) (fun xv => onW xv (cellsOf h z (fun xs n => natK n (fun n => appW h T z bytes xs n sv))))))
def wBit {β : Type} (f : Bool → Option β) (x : W) : Option β := match x with | .bool b => f b | _ => none
noncomputable def aEqb (s : S) (h : H) (neq : Bool) (x y : Opd) : R :=
  bnd (opd s x) (fun a => onW a (wBit (fun a => bnd (opd s y) (fun b => onW b (wBit (fun b => boolK ((a == b) != neq) (fun r => some (.w (.bool r), h))))))))
noncomputable def aEqs (s : S) (h : H) (ks : List Nat) (neq : Bool) (x y : Opd) : R :=
  bnd (opd s x) (fun a => onAgg a (fun a => bnd (opd s y) (fun b => onAgg b (fun b => bnd (eqN ks a b) (fun r => boolK (r != neq) (fun r => some (.w (.bool r), h)))))))
noncomputable def aEqn (s : S) (h : H) (k : Nat) (neq : Bool) (x y : Opd) : R :=
  bnd (opd s x) (fun a => onW a (fun a => bnd (opd s y) (fun b => onW b (fun b => bnd (isNil k a) (fun ra => bnd (isNil k b) (fun rb =>
    guardB (ra || rb) (boolK ((ra && rb) != neq) (fun r => some (.w (.bool r), h)))))))))
noncomputable def aCvi (s : S) (h : H) (k : IntKind) (x : Opd) : R := bnd (opd s x) (fun v => onInt v (fun _ n => bnd (iInt k (k.wrap n)) (fun v => some (v, h))))
noncomputable def aMkf (s : S) (h : H) (f : P) (first caps : List Opd) : R := bnd (opdsU s first) (fun fs => bnd (opdsU s caps) (fun vs => h.new (.caps fs vs) (fun b h => some (.w (.fn f b), h))))
noncomputable def aMkm (h : H) : R := h.new (.map [] 0) (fun b h => some (.w (.map b), h))
noncomputable def aMks (s : S) (h : H) (T z bytes : Nat) (zc : List W) (l c : Opd) : R :=
  bnd (opd s l) (fun lv => onNat lv (fun l => bnd (opd s c) (fun cv => onNat cv (fun c =>
    guardB (Nat.ble l c) (guardB (mulLe c bytes roomB) (bnd (reps c zc) (fun cs => h.new (.row true T cs) (fun b h => some (.w (.sl b 0 z l c true), h)))))))))
noncomputable def slcS (h : H) (b : P) (o z l hh m : Nat) (ex : Bool) : R :=
  natK (Nat.add o (Nat.mul l z)) (fun o => natK (Nat.sub hh l) (fun n => natK (Nat.sub m l) (fun c => boolK ex (fun ex => some (.w (.sl b o z n c ex), h)))))
noncomputable def subS (t : List UInt8) (l hh : Nat) : Option V := bnd (takeX (Nat.sub hh l) (dropX l t)) (fun l => some (.w (.str l)))
noncomputable def slcW (s : S) (h : H) (z : Nat) (lo hi mx : Option Opd) (x : W) : R :=
  match x with
  | .sl b o z' len cap ex => guardB (Nat.beq z z') (guardB (hi.isSome || !mx.isSome) (bound s mx cap cap (fun m => bound s hi len m (fun hh => bound s lo 0 hh (fun l =>
      slcS h b o z l hh m (mx.isSome || ex))))))
  | .nils => guardB (hi.isSome || !mx.isSome) (bound s mx 0 0 (fun m => bound s hi 0 m (fun hh => bound s lo 0 hh (fun _ => some (.w .nils, h)))))
  | _ => none
noncomputable def aSlc (s : S) (h : H) (z : Nat) (x : Opd) (lo hi mx : Option Opd) : R := bnd (opd s x) (fun v => onW v (slcW s h z lo hi mx))
def wStr {β : Type} (f : List UInt8 → Option β) (x : W) : Option β := match x with | .str t => f t | _ => none
noncomputable def aSst (s : S) (h : H) (x : Opd) (lo hi : Option Opd) : R :=
  bnd (opd s x) (fun v => onW v (wStr (fun t => bound s hi (lenX t) (lenX t) (fun hh => bound s lo 0 hh (fun l => bnd (subS t l hh) (fun v => some (v, h)))))))
noncomputable def aFld (s : S) (h : H) (off : Nat) (n : Option Nat) (x : Opd) : R :=
  bnd (opd s x) (fun v => onAgg v (fun cs => bnd (cellN n (dropX off cs)) (fun v => some (v, h))))
noncomputable def aIdv (s : S) (h : H) (len z : Nat) (n : Option Nat) (x i : Opd) : R :=
  bnd (opd s x) (fun v => onAgg v (fun cs => bnd (opd s i) (fun i => onNat i (fun i => guardB (Nat.blt i len)
    (bnd (cellN n (dropX (Nat.mul i z) cs)) (fun v => some (v, h)))))))
noncomputable def aIds (s : S) (h : H) (x i : Opd) : R :=
  bnd (opd s x) (fun v => onW v (wStr (fun t => bnd (opd s i) (fun i => onNat i (fun i => bnd (nthX i t) (fun c => bnd (iInt .u8 (Int.ofNat c.toNat)) (fun v => some (v, h))))))))
noncomputable def aIada (s : S) (h : H) (len z : Nat) (x i : Opd) : R :=
  bnd (opd s x) (fun v => onPtr v (fun b o => bnd (opd s i) (fun i => onNat i (fun i => guardB (Nat.blt i len)
    (natK (Nat.add o (Nat.mul i z)) (fun o => some (.w (.ptr b o), h)))))))
noncomputable def okR (h : H) (ok b : Bool) (u : U) : R :=
  Bool.rec (motive := fun _ => R) (U.rec (motive := fun _ => R) (fun x => some (.w x, h)) (fun cs => some (.a cs, h)) u) (some (.t [u, .w (.bool b)], h)) ok
noncomputable def lkpR (h : H) (ok : Bool) (zero : U) (r : Option (Nat × U)) : R :=
  Option.rec (motive := fun _ => R) (okR h ok false zero) (fun p => Prod.rec (motive := fun _ => R) (fun _ v => okR h ok true v) p) r
noncomputable def lkpW (h : H) (q : Q) (zero : U) (ok : Bool) (k : U) (m : W) : R :=
  match m with
  | .nilm => okR h ok false zero
  | .map r => atMap h r (fun es _ => bnd (findK q k es 0) (lkpR h ok zero))
  | _ => none
noncomputable def aLkp (s : S) (h : H) (q : Q) (zero : U) (ok : Bool) (m k : Opd) : R :=
  bnd (opd s m) (fun mv => onW mv (fun mv => bnd (opd s k) (fun kv => onU kv (fun kv => guardB (keyOk q kv) (lkpW h q zero ok kv mv)))))
noncomputable def addE (h : H) (r : P) (es : List E) (clock : Nat) (k v : U) (x : V) : R :=
  bnd (appX es [⟨k, v, clock⟩]) (fun es => natK (Nat.succ clock) (fun c => h.put r (.map es c) (fun h => some (x, h))))
noncomputable def altE (h : H) (r : P) (i : Nat) (es : List E) (clock : Nat) (f : E → E) (x : V) : R :=
  bnd (modE f i es) (fun es => h.put r (.map es clock) (fun h => some (x, h)))
noncomputable def aMup (s : S) (h : H) (q : Q) (m k v : Opd) : R :=
  bnd (opd s m) (fun mv => onMap mv (fun r => bnd (opd s k) (fun kv => onU kv (fun kv => bnd (opd s v) (fun vv => onU vv (fun vv => guardB (keyOk q kv) (atMap h r (fun es clock =>
    bnd (findK q kv es 0) (fun f => Option.rec (motive := fun _ => R) (addE h r es clock kv vv (.t []))
      (fun p => Prod.rec (motive := fun _ => R) (fun i _ => altE h r i es clock (fun e => ⟨kv, vv, e.born⟩) (.t [])) p) f)))))))))
noncomputable def aMen (s : S) (h : H) (q : Q) (zero : U) (m k : Opd) : R :=
  bnd (opd s m) (fun mv => onMap mv (fun r => bnd (opd s k) (fun kv => onU kv (fun kv => guardB (keyOk q kv) (atMap h r (fun es clock =>
    bnd (findK q kv es 0) (fun f => Option.rec (motive := fun _ => R) (addE h r es clock kv zero (.t [zero, .w (.int .i64 (Int.ofNat clock))]))
      (fun p => Prod.rec (motive := fun _ => R) (fun i v => bnd (nthX i es) (fun e => E.rec (motive := fun _ => R) (fun _ _ b =>
        altE h r i es clock (fun e => ⟨kv, e.val, e.born⟩) (.t [v, .w (.int .i64 (Int.ofNat b))])) e)) p) f)))))))
noncomputable def aEst (s : S) (h : H) (m st v : Opd) : R :=
  bnd (opd s m) (fun mv => onMap mv (fun r => bnd (opd s st) (fun sv => onNat sv (fun b => bnd (opd s v) (fun vv => onU vv (fun vv => atMap h r (fun es clock =>
    bnd (findB b es 0) (fun i => altE h r i es clock (fun e => ⟨e.key, vv, e.born⟩) (.t [])))))))))
noncomputable def aDel (s : S) (h : H) (q : Q) (m k : Opd) : R :=
  bnd (opd s m) (fun mv => onMap mv (fun r => bnd (opd s k) (fun kv => onU kv (fun kv => guardB (keyOk q kv) (atMap h r (fun es clock =>
    bnd (findK q kv es 0) (fun f => Option.rec (motive := fun _ => R) (h.put r (.map es clock) (fun h => some (.t [], h)))
      (fun p => Prod.rec (motive := fun _ => R) (fun i _ => bnd (eraX i es) (fun es => h.put r (.map es clock) (fun h => some (.t [], h)))) p) f)))))))
noncomputable def cpyW (h : H) (z : Nat) (xs : List W) (n : Nat) (d : W) : R :=
  match d with
  | .nils => some (.w (.int .i64 0), h)
  | .sl b o z' len _ _ => guardB (Nat.beq z z') (natK (Nat.min n len) (fun m => bnd (takeX (Nat.mul m z) xs) (fun xs =>
      atOwn h b (fun T cs => bnd (splice o xs cs) (fun cs' => h.put b (.row true T cs') (lenV m))))))
  | _ => none
noncomputable def aCpy (s : S) (h : H) (z : Nat) (d x : Opd) : R :=
  bnd (opd s d) (fun dv => onW dv (fun dv => bnd (opd s x) (fun xv => onW xv (cellsOf h z (fun xs n => cpyW h z xs n dv)))))
noncomputable def clrW (h : H) (z : Nat) (zc : List W) (x : W) : R :=
  match x with
  | .nils => some (.t [], h)
  | .sl b o z' len _ _ => Nat.rec (motive := fun _ => R) (some (.t [], h)) (fun _ _ => guardB (Nat.beq z z') (atOwn h b (fun T cs =>
      bnd (reps len zc) (fun zs => bnd (splice o zs cs) (fun cs' => h.put b (.row true T cs') (fun h => some (.t [], h))))))) len
  | _ => none
noncomputable def aClr (s : S) (h : H) (z : Nat) (zc : List W) (x : Opd) : R := bnd (opd s x) (fun v => onW v (clrW h z zc))
def mnx2 (mx : Bool) (x y : Int) : Int := Bool.casesOn mx (Bool.casesOn (decide (y < x)) x y) (Bool.casesOn (decide (x < y)) x y)
noncomputable def mnxL (mx : Bool) (k : IntKind) (vs : List V) : Int → Option V :=
  List.rec (motive := fun _ => Int → Option V) (fun a => some (.w (.int k a))) (fun v _ ih a => onInt v (fun _ b => intK (mnx2 mx a b) ih)) vs
noncomputable def aMnx (s : S) (h : H) (mx : Bool) (xs : List Opd) : R :=
  bnd (opds s xs) (fun vs => List.rec (motive := fun _ => R) none (fun v vs _ => onInt v (fun k a => bnd (mnxL mx k vs a) (fun v => some (v, h)))) vs)

noncomputable def aEqp (s : S) (h : H) (neq : Bool) (x y : Opd) : R :=
  bnd (opd s x) (fun a => onPtr a (fun b o => bnd (opd s y) (fun c => onPtr c (fun b' o' => guardB (decide (b = b')) (guardB (Nat.beq o o') (boolK (!neq) (fun r => some (.w (.bool r), h))))))))
/-- an array in memory, as a slice -/
noncomputable def aSla (s : S) (h : H) (n z : Nat) (x : Opd) : R :=
  bnd (opd s x) (fun v => onPtr v (fun b o => atOwn h b (fun _ cs => guardB (Nat.ble (Nat.add o (Nat.mul n z)) (lenX cs)) (some (.w (.sl b o z n n true), h)))))
noncomputable def bytesX (l : List W) : Option (List UInt8) :=
  List.rec (motive := fun _ => Option (List UInt8)) (some []) (fun x _ ih => wInt (fun k n => guardB (decide (k = .u8)) (bnd ih (fun r => some (UInt8.ofNat n.toNat :: r)))) x) l
noncomputable def b2sW (h : H) (x : W) : R :=
  match x with
  | .nils => some (.w (.str []), h)
  | .sl b o z len _ _ => guardB (Nat.beq z 1) (atRow h b (fun _ _ cs => bnd (takeX len (dropX o cs)) (fun l => bnd (bytesX l) (fun r => some (.w (.str r), h)))))
  | _ => none
noncomputable def aB2s (s : S) (h : H) (x : Opd) : R := bnd (opd s x) (fun v => onW v (b2sW h))
/-- a raw pointer of it -/
noncomputable def aCvu (s : S) (h : H) (x : Opd) : R := bnd (opd s x) (fun v => onPtr v (fun b o => atRow h b (fun _ _ cs => guardB (Nat.blt o (lenX cs)) (some (v, h)))))
/-- and back, where a variable of type u (of n cells) lies -/
noncomputable def aCvp (s : S) (h : H) (u n : Nat) (x : Opd) : R :=
  bnd (opd s x) (fun v => onPtr v (fun b o => atOwn h b (fun T cs => guardB (Nat.beq T (Nat.add (Nat.mul 2 u) 1)) (guardB (Nat.beq o 0) (guardB (Nat.beq (lenX cs) n) (some (v, h)))))))
noncomputable def usdW (h : H) (x : W) : R :=
  match x with
  | .nils => some (.w .nilp, h)
  | .sl b o _ _ cap _ => guardB (Nat.blt 0 cap) (some (.w (.ptr b o), h))
  | _ => none
noncomputable def aUsd (s : S) (h : H) (x : Opd) : R := bnd (opd s x) (fun v => onW v (usdW h))
noncomputable def ustP (h : H) (e n : Nat) (b : P) (o : Nat) : R :=
  atOwn h b (fun T cs => guardB (Nat.beq T (Nat.mul 2 e)) (bnd (takeX n (dropX o cs)) (fun l => bnd (bytesX l) (fun r => h.put b (.row false T cs) (fun h => some (.w (.str r), h))))))
noncomputable def aUst (s : S) (h : H) (e : Nat) (x y : Opd) : R :=
  bnd (opd s x) (fun v => onPtr v (fun b o => bnd (opd s y) (fun n => onNat n (fun n => guardB (Nat.blt 0 n) (guardB (Nat.ble n 9223372036854775807) (natK n (fun n => ustP h e n b o)))))))
/-- a look-up in a map of whole numbers -/
noncomputable def intR (r : R) : R := bnd2 r (fun v h => onInt v (fun k n => some (.w (.int k n), h)))
noncomputable def aLki (s : S) (h : H) (q : Q) (k : IntKind) (m x : Opd) : R :=
  bnd (opd s x) (fun kv => onU kv (fun kv => bnd (keyEq q kv kv) (fun b => guardB b (intR (aLkp s h q (.w (.int k 0)) false m x)))))

noncomputable def actB (s : S) (h : H) (b : B) : R :=
  B.rec (motive := fun _ => R) (aEqb s h) (aEqs s h) (aEqn s h) (aCvi s h) (aMkf s h) (aMkm h) (aMks s h) (aFld s h) (aIdv s h) (aIds s h) (aIada s h) (aLkp s h) (aMup s h) (aMen s h)
    (aEst s h) (aDel s h) (aCpy s h) (aClr s h) (aMnx s h) (aMln s h) (aSlc s h) (aSst s h)
    (aEqp s h) (aSla s h) (aB2s s h) (aCvu s h) (aCvp s h) (aMv s h) (aUsd s h) (aUst s h) (aLki s h) b
abbrev Call := V → List V → H → R
noncomputable def aCall (cl : Call) (s : S) (h : H) (f : Opd) (args : List Opd) : R := bnd (opd s f) (fun f => bnd (opds s args) (fun vs => cl f vs h))
noncomputable def act (cl : Call) (s : S) (h : H) (a : A) : R :=
  A.rec (motive := fun _ => R) (aMv s h) (aLd s h) (aFad s h) (aCall cl s h) (aIad s h) (aSt s h) (aLen s h) (aPick s h) (aBin s h) (aUn s h) (aBox s h)
    (aBld s h) (aBsl s h) (aExt s h) (aApp s h) (aNck s h) (actB s h) a

abbrev SH := Option (S × H)
noncomputable def setD (s : S) (h : H) (d : Option P) (v : V) : SH := Option.rec (motive := fun _ => SH) (some (s, h)) (fun d => bnd (s.set (some v) d) (fun s => some (s, h))) d
def isB (b : Bool) (x : W) : Bool := match x with | .bool c => c == b | _ => false
noncomputable def wanted (s : S) (g : Option (P × Bool)) : Option Bool :=
  Option.rec (motive := fun _ => Option Bool) (some true) (fun p => bnd (s.get p.1) (fun v => boolK (V.rec (motive := fun _ => Bool) (isB p.2) (fun _ => false) (fun _ => false) v) some)) g
noncomputable def insA (cl : Call) (s : S) (h : H) (d : Option P) (a : A) : SH := bnd2 (act cl s h a) (fun v h => setD s h d v)
noncomputable def ins (cl : Call) (s : S) (h : H) (i : I) : SH :=
  I.rec (motive := fun _ => SH) (fun d a g => bnd (wanted s g) (fun b => Bool.rec (motive := fun _ => SH) (setD s h d (.t [])) (insA cl s h d a) b)) i
noncomputable def insL (cl : Call) (l : List I) : S → H → SH :=
  List.rec (motive := fun _ => S → H → SH) (fun s h => some (s, h)) (fun i _ ih s h => bnd2 (ins cl s h i) ih) l

/-! a region whose operations may come in another order: what one writes or makes is hidden from whatever is not ordered with it -/
noncomputable def killL (ids : List P) : Tr O → Option (Tr O) :=
  List.rec (motive := fun _ => Tr O → Option (Tr O)) some
    (fun b _ ih tr => Option.rec (motive := fun _ => Option (Tr O)) (ih tr) (fun _ => bnd (tr.set (some .dead) b) ih) (tr.get b)) ids
/-- what the operation touched, laid over the heap ahead of it -/
noncomputable def overL (new : Tr O) (ids : List P) : Tr O → Option (Tr O) :=
  List.rec (motive := fun _ => Tr O → Option (Tr O)) some (fun b _ ih tr => bnd (tr.set (new.get b) b) ih) ids
/-- what the operations us wrote or made; of those behind, what the table says that they write -/
noncomputable def hid (us : List Nat) (done : List (List P)) (tbl : List (List P)) : Option (List P) :=
  List.rec (motive := fun _ => Option (List P)) (some []) (fun u _ ih => bnd ih (fun r =>
    Option.rec (motive := fun _ => Option (List P)) (Option.rec (motive := fun _ => Option (List P)) (some r) (fun l => appX l r) (nthX u tbl)) (fun l => appX l r) (nthX u done))) us
/-- the heap that the operation sees: none at all, or what is not hidden -/
noncomputable def seen (u : Option (List Nat)) (done tbl : List (List P)) (tr : Tr O) : Option (Tr O) :=
  Option.rec (motive := fun _ => Option (Tr O)) (some .e) (fun us => bnd (hid us done tbl) (fun m => killL m tr)) u
/-- one operation on the heap that it sees: the new state, what it wrote, what it touched -/
noncomputable def insM (cl : Call) (s : S) (h : H) (i : I) (k : Tr O) : Option ((S × H) × List P × List P) :=
  H.rec (motive := fun _ => Option ((S × H) × List P × List P)) (fun sz tr log nw =>
    bnd2 (ins cl s ⟨sz, k, [], []⟩ i) (fun s' h' =>
      H.rec (motive := fun _ => Option ((S × H) × List P × List P)) (fun sz' tr' log' nw' => bnd (appX log' nw') (fun tch => bnd (overL tr' tch tr) (fun tr'' =>
        bnd (appX log' log) (fun lg => bnd (appX nw' nw) (fun nn => some ((s', ⟨sz', tr'', lg, nn⟩), log', tch)))))) h')) h
noncomputable def passL (cl : Call) (tbl : List (List P)) (l : List I) : List (Option (List Nat)) → S → H → List (List P) → List (List P) → Option ((S × H) × List (List P)) :=
  List.rec (motive := fun _ => List (Option (List Nat)) → S → H → List (List P) → List (List P) → Option ((S × H) × List (List P)))
    (fun _ s h _ wr => some ((s, h), wr))
    (fun i _ ih us s h done wr => List.rec (motive := fun _ => Option ((S × H) × List (List P))) none (fun u us _ =>
      bnd (seen u done tbl h.tr) (fun k => bnd2 (insM cl s h i k) (fun sh p => Prod.rec (motive := fun _ => Option ((S × H) × List (List P)))
        (fun s h => bnd (appX done [p.2]) (fun done => bnd (appX wr [p.1]) (fun wr => ih us s h done wr))) sh))) us) l
noncomputable def sameP (a : List (List P)) (b : List (List P)) : Bool := decide (a = b)
noncomputable def allNil (a : List (List P)) : Bool := List.rec (motive := fun _ => Bool) true (fun x _ ih => List.rec (motive := fun _ => Bool) ih (fun _ _ _ => false) x) a
noncomputable def drwP (cl : Call) (l : List I) (us : List (Option (List Nat))) (s : S) (h : H) : SH :=
  bnd2 (passL cl [] l us s h [] []) (fun sh wr => Bool.rec (motive := fun _ => SH)
    (bnd2 (passL cl wr l us s h [] []) (fun sh wr' => guardB (sameP wr wr') (some sh))) (some sh) (allNil wr))
/-- us: empty where nothing needs to be hidden -/
noncomputable def drwL (cl : Call) (l : List I) (us : List (Option (List Nat))) (s : S) (h : H) : SH :=
  List.rec (motive := fun _ => SH) (insL cl l s h) (fun _ _ _ => drwP cl l us s h) us

abbrev RC := Option (X × S × H)
abbrev RunC := C → S → H → RC
noncomputable def bnd3 {β : Type} (r : RC) (f : X → S → H → Option β) : Option β := bnd2 r (fun x p => Prod.rec (motive := fun _ => Option β) (f x) p)
noncomputable def cOps (cl : Call) (s : S) (h : H) (l : List I) : RC := bnd2 (insL cl l s h) (fun s h => some (.nrm, s, h))
noncomputable def cDrw (cl : Call) (s : S) (h : H) (l : List I) (us : List (Option (List Nat))) : RC := bnd2 (drwL cl l us s h) (fun s h => some (.nrm, s, h))
noncomputable def thenC (r : RunC) (b : C) (x : X) (s : S) (h : H) : RC := X.rec (motive := fun _ => RC) (r b s h) (fun id => some (.exit id, s, h)) (some (.ret, s, h)) x
noncomputable def cSeq (r : RunC) (s : S) (h : H) (a b : C) : RC := bnd3 (r a s h) (thenC r b)
noncomputable def cCond (r : RunC) (s : S) (h : H) (c : Opd) (a b : C) : RC := bnd (opd s c) (fun v => onBool v (r a s h) (r b s h))
noncomputable def outB (id : Nat) (x : X) (s : S) (h : H) : RC :=
  X.rec (motive := fun _ => RC) (some (.nrm, s, h)) (fun j => Bool.rec (motive := fun _ => RC) (some (.exit j, s, h)) (some (.nrm, s, h)) (Nat.beq j id)) (some (.ret, s, h)) x
noncomputable def cBlk (r : RunC) (s : S) (h : H) (id : Nat) (b : C) : RC := bnd3 (r b s h) (outB id)
noncomputable def cLoop (r : RunC) (s : S) (h : H) (b : C) : RC := bnd3 (r b s h) (thenC r (.loop b))
def isFn (x : W) : Bool := match x with | .fnc _ => true | .fn _ _ => true | _ => false
noncomputable def cRngf (cl : Call) (r : RunC) (s : S) (h : H) (f : Opd) (ps : List P) (asg body : C) : RC :=
  bnd (opd s f) (fun fv => onW fv (fun f => guardB (isFn f) (h.new (.lp s ps asg body none false) (fun l h => bnd2 (cl (.w f) [.w (.yld l)] h) (fun _ h => bnd (h.tr.get l) (onLpO (fun _ _ _ _ j busy =>
    guardB (!busy) (h.put l .dead (fun h => Option.rec (motive := fun _ => RC) (some (.nrm, s, h)) (fun j => r j s h) j)))))))))
/-! a range over a map whose rounds leave nothing behind but what is let go: in whatever order -/
noncomputable def eraL (ids : List P) : S → Option S :=
  List.rec (motive := fun _ => S → Option S) some (fun p _ ih s => bnd (s.set none p) ih) ids
noncomputable def memP (x : P) (ys : List P) : Bool := List.rec (motive := fun _ => Bool) false (fun y _ ih => Bool.rec (motive := fun _ => Bool) ih true (decide (x = y))) ys
noncomputable def subP (xs ys : List P) : Bool := List.rec (motive := fun _ => Bool) true (fun x _ ih => Bool.rec (motive := fun _ => Bool) false ih (memP x ys)) xs
noncomputable def okRnd (b : Nat) (x : X) : Bool := X.rec (motive := fun _ => Bool) true (fun j => Nat.beq j b) false x
/-- plain values that are one -/
noncomputable def sameV (x y : V) : Bool :=
  match x, y with
  | .w .nils, .w .nils => true
  | .w .nilp, .w .nilp => true
  | .w .nilm, .w .nilm => true
  | .w (.bool a), .w (.bool b) => a == b
  | .w (.int j a), .w (.int k b) => decide (j = k) && decide (a = b)
  | _, _ => false
noncomputable def keptO (x y : Option V) : Bool := Option.rec (motive := fun _ => Bool) true (fun v => Option.rec (motive := fun _ => Bool) false (fun u => sameV v u) y) x
noncomputable def keptB (kl : List P) (s t : S) : Bool := List.rec (motive := fun _ => Bool) true (fun p _ ih => Bool.rec (motive := fun _ => Bool) false ih (keptO (s.get p) (t.get p))) kl
noncomputable def rnd1 (cl : Call) (r : RunC) (te : P) (kl : List P) (b : Nat) (l : List I) (c : C) (s : S) (h : H) (k v : U) : RC :=
  bnd (s.set (some (.t [k, v])) te) (fun s0 => bnd2 (insL cl l s0 ⟨h.sz, h.tr, [], []⟩) (fun s1 h1 => bnd3 (r c s1 h1) (fun x s2 h2 => guardB (okRnd b x) (guardB (keptB kl s s2) (guardB (subP h2.log h2.nw) (some (x, s2, h2)))))))
noncomputable def rndE (cl : Call) (r : RunC) (te : P) (kl : List P) (b : Nat) (l : List I) (c : C) (s : S) (h : H) (e : E) : Bool :=
  E.rec (motive := fun _ => Bool) (fun k v _ => Option.rec (motive := fun _ => Bool) false (fun _ => true) (rnd1 cl r te kl b l c s h k v)) e
noncomputable def allE (f : E → Bool) (es : List E) : Bool := List.rec (motive := fun _ => Bool) true (fun e _ ih => Bool.rec (motive := fun _ => Bool) false ih (f e)) es
noncomputable def bornB (c : Nat) (es : List E) : Bool := allE (fun e => Nat.blt e.born c) es
noncomputable def freshB (n : Nat) (es : List E) : Bool := allE (fun e => !(Nat.beq e.born n)) es
noncomputable def nodupB (es : List E) : Bool := List.rec (motive := fun _ => Bool) true (fun e es ih => Bool.rec (motive := fun _ => Bool) false ih (freshB e.born es)) es
noncomputable def mapE {β : Type} (h : H) (f : List E → Option β) (x : W) : Option β :=
  match x with
  | .nilm => f []
  | .map r => atMap h r (fun es c => guardB (bornB c es) (guardB (nodupB es) (f es)))
  | _ => none
noncomputable def cMfor (cl : Call) (r : RunC) (s : S) (h : H) (pre : List I) (m : Opd) (it : P) (te : P) (sl kl : List P) (b : Nat) (l : List I) (c : C) : RC :=
  bnd2 (insL cl pre s h) (fun s h => bnd (opd s m) (fun mv => onW mv (mapE h (fun es => h.new .dead (fun p h => bnd (eraL sl s) (fun s => bnd (s.set (some (.w (.it p))) it) (fun s =>
    guardB (allE (rndE cl r te kl b l c s h) es) (some (.nrm, s, h)))))))))
noncomputable def runC (cl : Call) (n : Nat) : RunC :=
  Nat.rec (motive := fun _ => RunC) (fun _ _ _ => none)
    (fun _ ih c s h => C.casesOn (motive := fun _ => RC) c (some (.nrm, s, h)) (cOps cl s h) (cDrw cl s h) (cSeq ih s h) (cCond ih s h) (cBlk ih s h) (cLoop ih s h)
      (fun id => some (.exit id, s, h)) (some (.ret, s, h)) (cRngf cl ih s h) (fun pre m it _ _ te sl kl _ b l c => cMfor cl ih s h pre m it te sl kl b l c) none) n

noncomputable def res1 (s : S) (h : H) (t : P) (k : Option (Option Nat)) : Option V :=
  Option.rec (motive := fun _ => Option V) (s.get t) (fun n => bnd2 (aLd s h n (.t t)) (fun v _ => some v)) k
noncomputable def resL (s : S) (h : H) (l : List (P × Option (Option Nat))) : Option (List U) :=
  List.rec (motive := fun _ => Option (List U)) (some []) (fun t _ ih => bnd (res1 s h t.1 t.2) (fun v => onU v (fun v => bnd ih (fun vs => some (v :: vs))))) l
noncomputable def tupR (vs : List U) (h : H) : R :=
  match vs with | [v] => U.rec (motive := fun _ => R) (fun x => some (.w x, h)) (fun cs => some (.a cs, h)) v | vs => some (.t vs, h)
noncomputable def setPs (ps : List P) : List V → S → Option S :=
  List.rec (motive := fun _ => List V → S → Option S) (fun vs s => List.rec (motive := fun _ => Option S) (some s) (fun _ _ _ => none) vs)
    (fun p _ ih vs s => List.rec (motive := fun _ => Option S) none (fun v vs _ => bnd (s.set (some v) p) (ih vs)) vs) ps
noncomputable def mkS (vs : List V) : P → S → Option S :=
  List.rec (motive := fun _ => P → S → Option S) (fun _ s => some s) (fun v _ ih i s => bnd (s.set (some v) i) (fun s => nextK i (fun i => ih i s))) vs
noncomputable def okX (x : X) (r : R) : R := X.rec (motive := fun _ => R) r (fun _ => none) r x
noncomputable def callFn (r : RunC) (fd : F) (args : List V) (h : H) : R :=
  F.rec (motive := fun _ => R) (fun res body => bnd (mkS args .h .e) (fun s => bnd3 (r body s h) (fun x s h => okX x (bnd (resL s h res) (fun vs => tupR vs h))))) fd
noncomputable def jump (x : X) : Option C := X.rec (motive := fun _ => Option C) none (fun id => some (C.exit id)) (some C.ret) x
/-- the round's body, the loop busy -/
noncomputable def callY2 (r : RunC) (l : P) (body : C) (s : S) (h : H) : R :=
  bnd (h.tr.get l) (onLpO (fun sl ps asg body' j busy => guardB (!busy) (guardB (Option.isNone j) (h.put l (.lp sl ps asg body' none true) (fun h =>
    bnd3 (r body s h) (fun x _ h => bnd (h.tr.get l) (onLpO (fun sl ps asg body' _ _ => h.put l (.lp sl ps asg body' (jump x) false) (fun h =>
      boolK (Option.isNone (jump x)) (fun b => some (.w (.bool b), h)))))))))))
noncomputable def callY (r : RunC) (l : P) (args : List V) (h : H) : R :=
  bnd (h.tr.get l) (onLpO (fun sl ps asg body _ _ => bnd (setPs ps args sl) (fun s => bnd3 (r asg s h) (fun x s h => X.rec (motive := fun _ => R) (callY2 r l body s h) (fun _ => none) none x))))
noncomputable def capV (us : List U) : Option (List V) := List.rec (motive := fun _ => Option (List V)) (some []) (fun u _ ih => bnd ih (fun r => U.rec (motive := fun _ => Option (List V)) (fun x => some (.w x :: r)) (fun cs => some (.a cs :: r)) u)) us
noncomputable def callW (pr : P → Option F) (r : RunC) (args : List V) (h : H) (f : W) : R :=
  match f with
  | .fnc k => bnd (pr k) (fun fd => callFn r fd args h)
  | .fn k b => bnd (pr k) (fun fd => bnd (h.tr.get b) (onCapO (fun fs cs => bnd (capV fs) (fun fs => bnd (capV cs) (fun cs => bnd (appX args cs) (fun args => bnd (appX fs args) (fun args => callFn r fd args h)))))))
  | .yld l => callY r l args h
  | _ => none
noncomputable def callL (pr : P → Option F) (m n : Nat) : Call :=
  Nat.rec (motive := fun _ => Call) (fun _ _ _ => none) (fun _ ih f args h => onW f (callW pr (runC ih m) args h)) n
noncomputable def callF (pr : P → Option F) (n : Nat) : Call := callL pr n n
end Go.Am
namespace Go.Am
set_option autoImplicit false
variable {α β γ : Type}

@[simp] theorem bnd_some (a : α) (f : α → Option β) : bnd (some a) f = f a := rfl
@[simp] theorem bnd_none (f : α → Option β) : bnd none f = none := rfl
theorem bnd_eq {x : Option α} {f : α → Option β} {b : β} : bnd x f = some b ↔ ∃ a, x = some a ∧ f a = some b := by
  cases x <;> simp
@[simp] theorem bnd2_some (a : α) (b : β) (f : α → β → Option γ) : bnd2 (some (a, b)) f = f a b := rfl
@[simp] theorem bnd2_none (f : α → β → Option γ) : bnd2 none f = none := rfl
theorem bnd2_eq {x : Option (α × β)} {f : α → β → Option γ} {c : γ} : bnd2 x f = some c ↔ ∃ a b, x = some (a, b) ∧ f a b = some c := by
  rcases x with _ | ⟨a, b⟩
  · simp
  · constructor
    · exact fun h => ⟨a, b, rfl, h⟩
    · rintro ⟨a', b', h, hf⟩; cases h; exact hf
@[simp] theorem natK_eq (n : Nat) (f : Nat → Option β) : natK n f = f n := by cases n <;> rfl
@[simp] theorem intK_eq (n : Int) (f : Int → Option β) : intK n f = f n := by cases n <;> simp [intK]
@[simp] theorem boolK_eq (b : Bool) (f : Bool → Option β) : boolK b f = f b := by cases b <;> rfl
@[simp] theorem guardB_true (f : Option β) : guardB true f = f := rfl
@[simp] theorem guardB_false (f : Option β) : guardB false f = none := rfl
theorem guardB_eq {b : Bool} {f : Option β} {x : β} : guardB b f = some x ↔ b = true ∧ f = some x := by cases b <;> simp

/-- the number of a name -/
def P.nat : P → Nat
  | .h => 0
  | .l p => 2 * p.nat + 1
  | .r p => 2 * p.nat + 2
def P.next : P → P
  | .h => .l .h
  | .l q => .r q
  | .r q => .l q.next
@[simp] theorem P.nat_next (p : P) : p.next.nat = p.nat + 1 := by
  induction p with
  | h => rfl
  | l q => simp [P.next, P.nat]
  | r q ih => simp [P.next, P.nat, ih]; omega
theorem P.nat_inj {p q : P} (h : p.nat = q.nat) : p = q := by
  induction p generalizing q with
  | h => cases q <;> simp [P.nat] at h ⊢
  | l p ih => cases q with
    | h => simp [P.nat] at h
    | l q => simp [P.nat] at h; rw [ih (q := q) (by omega)]
    | r q => simp [P.nat] at h; omega
  | r p ih => cases q with
    | h => simp [P.nat] at h
    | l q => simp [P.nat] at h; omega
    | r q => simp [P.nat] at h; rw [ih (q := q) (by omega)]
theorem nextRec (p : P) : (P.rec (motive := fun _ => Option P) (some (.l .h)) (fun q _ => some (.r q)) (fun _ ih => bnd ih (fun q => some (.l q))) p) = some p.next := by
  induction p with
  | h => rfl
  | l q => rfl
  | r q ih => simp [P.next, ih]
@[simp] theorem nextK_eq (p : P) (f : P → Option β) : nextK p f = f p.next := by rw [nextK, nextRec]; rfl

namespace Tr
@[simp] theorem get_e (p : P) : get p (.e : Tr α) = none := by cases p <;> rfl
@[simp] theorem get_h (l r : Tr α) (v : Option α) : get .h (.n l v r) = v := rfl
@[simp] theorem get_l (p : P) (l r : Tr α) (v : Option α) : get (.l p) (.n l v r) = get p l := rfl
@[simp] theorem get_r (p : P) (l r : Tr α) (v : Option α) : get (.r p) (.n l v r) = get p r := rfl
/-- set, told as a plain function -/
noncomputable def put (x : Option α) : P → Tr α → Tr α
  | .h, .e => .n .e x .e
  | .h, .n l _ r => .n l x r
  | .l p, .e => .n (put x p .e) none .e
  | .l p, .n l v r => .n (put x p l) v r
  | .r p, .e => .n .e none (put x p .e)
  | .r p, .n l v r => .n l v (put x p r)
@[simp] theorem set_eq (x : Option α) (p : P) (t : Tr α) : set x p t = some (put x p t) := by
  induction p generalizing t with
  | h => cases t <;> rfl
  | l p ih => cases t with
    | e => show bnd (set x p .e) _ = _; rw [ih]; rfl
    | n l v r => show bnd (set x p l) _ = _; rw [ih]; rfl
  | r p ih => cases t with
    | e => show bnd (set x p .e) _ = _; rw [ih]; rfl
    | n l v r => show bnd (set x p r) _ = _; rw [ih]; rfl
theorem get_put (x : Option α) (p q : P) (t : Tr α) : get q (put x p t) = if q = p then x else get q t := by
  induction p generalizing q t with
  | h => cases t <;> cases q <;> simp [put]
  | l p ih => cases t <;> cases q <;> simp [put, ih]
  | r p ih => cases t <;> cases q <;> simp [put, ih]
@[simp] theorem get_put_same (x : Option α) (p : P) (t : Tr α) : get p (put x p t) = x := by simp [get_put]
theorem get_put_ne (x : Option α) {p q : P} (h : q ≠ p) (t : Tr α) : get q (put x p t) = get q t := by simp [get_put, h]
end Tr

/-! lists -/
@[simp] theorem headO_nil {f : α → Option β} : headO [] f = none := rfl
@[simp] theorem headO_cons {f : α → Option β} (x : α) (l : List α) : headO (x :: l) f = f x := rfl
@[simp] theorem takeX_zero (l : List α) : takeX 0 l = some [] := rfl
@[simp] theorem takeX_nil (n : Nat) : takeX (n + 1) ([] : List α) = none := rfl
@[simp] theorem takeX_cons (n : Nat) (x : α) (l : List α) : takeX (n + 1) (x :: l) = bnd (takeX n l) (fun r => some (x :: r)) := rfl
theorem takeX_eq {n : Nat} {l r : List α} : takeX n l = some r ↔ n ≤ l.length ∧ r = l.take n := by
  induction n generalizing l r with
  | zero => simp [eq_comm]
  | succ n ih => cases l with
    | nil => simp
    | cons x l =>
      simp only [takeX_cons, bnd_eq, List.length_cons, List.take_succ_cons]
      constructor
      · rintro ⟨a, h1, h2⟩; obtain ⟨h3, rfl⟩ := ih.1 h1; exact ⟨by omega, (Option.some.inj h2).symm⟩
      · rintro ⟨h1, rfl⟩; exact ⟨_, ih.2 ⟨by omega, rfl⟩, rfl⟩
@[simp] theorem appX_eq (a b : List α) : appX a b = some (a ++ b) := by
  induction a with
  | nil => rfl
  | cons x a ih => show bnd (appX a b) _ = _; rw [ih]; rfl
@[simp] theorem dropX_eq (n : Nat) (l : List α) : dropX n l = l.drop n := by
  induction n generalizing l with
  | zero => rfl
  | succ n ih => cases l with
    | nil => rfl
    | cons x l => exact ih l
@[simp] theorem lenX_eq (l : List α) : lenX l = l.length := by
  induction l with
  | nil => rfl
  | cons x l ih => show Nat.succ (lenX l) = _; rw [ih]; rfl
@[simp] theorem nthX_eq (n : Nat) (l : List α) : nthX n l = l[n]? := by
  unfold nthX
  rw [dropX_eq]
  induction n generalizing l with
  | zero => cases l <;> rfl
  | succ n ih => cases l with
    | nil => rfl
    | cons x l => simpa using ih l
theorem over_eq {vs l r : List α} : over vs l = some r ↔ vs.length ≤ l.length ∧ r = vs ++ l.drop vs.length := by
  induction vs generalizing l r with
  | nil => show some l = some r ↔ _; simp [eq_comm]
  | cons v vs ih => cases l with
    | nil => show none = some r ↔ _; simp
    | cons x l =>
      show bnd (over vs l) _ = some r ↔ _
      simp only [bnd_eq, List.length_cons, List.drop_succ_cons, List.cons_append]
      constructor
      · rintro ⟨a, h1, h2⟩; obtain ⟨h3, rfl⟩ := ih.1 h1; exact ⟨by omega, (Option.some.inj h2).symm⟩
      · rintro ⟨h1, rfl⟩; exact ⟨_, ih.2 ⟨by omega, rfl⟩, rfl⟩
theorem splice_eq {off : Nat} {vs l r : List α} : splice off vs l = some r ↔ off + vs.length ≤ l.length ∧ r = l.take off ++ vs ++ l.drop (off + vs.length) := by
  induction off generalizing l r with
  | zero => show over vs l = some r ↔ _; rw [over_eq]; simp
  | succ n ih => cases l with
    | nil => show none = some r ↔ _; simp
    | cons x l =>
      show bnd (splice n vs l) _ = some r ↔ _
      simp only [bnd_eq, List.length_cons]
      constructor
      · rintro ⟨a, h1, h2⟩
        obtain ⟨h3, rfl⟩ := ih.1 h1
        refine ⟨by omega, ?_⟩
        rw [← Option.some.inj h2]
        simp [Nat.add_right_comm n 1]
      · rintro ⟨h1, rfl⟩
        exact ⟨_, ih.2 ⟨by omega, rfl⟩, by simp [Nat.add_right_comm n 1]⟩
theorem reps_eq (c : Nat) (zc : List α) : reps c zc = some (List.replicate c zc).flatten := by
  induction c with
  | zero => rfl
  | succ c ih => show bnd (reps c zc) _ = _; rw [ih]; simp [List.replicate_succ]
theorem eraX_eq {n : Nat} {l r : List α} : eraX n l = some r ↔ n < l.length ∧ r = l.eraseIdx n := by
  induction n generalizing l r with
  | zero => cases l with
    | nil => show none = some r ↔ _; simp
    | cons x l => show some l = some r ↔ _; simp [eq_comm]
  | succ n ih => cases l with
    | nil => show none = some r ↔ _; simp
    | cons x l =>
      show bnd (eraX n l) _ = some r ↔ _
      simp only [bnd_eq, List.length_cons, List.eraseIdx_cons_succ]
      constructor
      · rintro ⟨a, h1, h2⟩; obtain ⟨h3, rfl⟩ := ih.1 h1; exact ⟨by omega, (Option.some.inj h2).symm⟩
      · rintro ⟨h1, rfl⟩; exact ⟨_, ih.2 ⟨by omega, rfl⟩, rfl⟩

namespace H
@[simp] theorem new_eq (h : H) (o : O) (f : P → H → Option β) : h.new o f = f h.sz ⟨h.sz.next, Tr.put (some o) h.sz h.tr, h.log, h.sz :: h.nw⟩ := by
  cases h; simp [H.new]
@[simp] theorem put_eq (h : H) (b : P) (o : O) (f : H → Option β) : h.put b o f = f ⟨h.sz, Tr.put (some o) b h.tr, b :: h.log, h.nw⟩ := by
  cases h; simp [H.put]
end H
end Go.Am
