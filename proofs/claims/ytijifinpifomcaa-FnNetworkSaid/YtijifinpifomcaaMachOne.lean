/- A small abstract machine over the kit's wp, part of it: states of slots and owned rows, and what each operation does to them. No condition. -/
import Derived.Carry
import Derived.ChangeSlices
import Derived.Deep.AppendSrc
import Derived.Deep.LoopGhost
import Derived.Laws.IdiomStrings
import Derived.Orders
import Derived.ProofKit
import Derived.WalkKit
set_option linter.unusedVariables false
set_option linter.unusedSimpArgs false
set_option linter.constructorNameAsVariable false
set_option linter.unusedSectionVars false
namespace Go.Abs
open Go
abbrev Path := List (Nat × Nat)
abbrev K := Nat × Nat
inductive T where
  | v (x : Value)
  | s (own : Bool) (sz : Nat) (es : List (List T))
  | d
structure Ent where
  ver : Nat
  sz : Nat
  es : List (List T)
inductive C where
  | v (x : Value)
  | b (sz : Nat) (es : List (List T))
  | r (k : K) (ver : Nat) (p : Path) (off len : Nat)
  | n
  | u
inductive V where
  | c (c : C)
  | a (cs : List C)
  | p (k : K) (ver : Nat) (p : Path) (i off : Nat)
  | q (sz : Nat) (es : List (List T)) (i off : Nat)
  | t (vs : List V)
  | f (fn : Nat) (caps : List V)
  | u
inductive X where
  | v (v : V)
  | e (e : Ent)
  | gone
  | none
inductive Loc where
  | s (t : Nat)
  | k (k : K)
  deriving DecidableEq
abbrev St := Loc → X
inductive A where
  | c (t : T)
  | a (ts : List T)
  | q (sz : Nat) (es : List (List T)) (i off : Nat)
  | f (fn : Nat) (caps : List A)
  | p (sz : Nat) (es : List (List T))
abbrev Ws := List (Loc × X)
def ovl : Ws → Loc → Option X
  | [], _ => none
  | (l, x) :: ws, l' => if l' = l then some x else ovl ws l'
def app (ws : Ws) (st : St) : St := fun l => match ovl ws l with
  | some x => x
  | none => st l
inductive M where
  | ret (ws : Ws)
  | get (l : Loc) (f : X → M)
  | req (p : Prop) (m : M)
  | any (f : Bool → M)
  | call (f : Nat) (as : List A) (k : List A → List A → M)
  | bad
mutual
def borT : T → T
  | .v x => .v x
  | .s _ sz es => .s false sz (borEs es)
  | .d => .d
def borE : List T → List T
  | [] => []
  | t :: ts => borT t :: borE ts
def borEs : List (List T) → List (List T)
  | [] => []
  | e :: es => borE e :: borEs es
end
mutual
def ownT : T → Bool
  | .v _ => true
  | .s o _ es => o && ownEs es
  | .d => false
def ownE : List T → Bool
  | [] => true
  | t :: ts => ownT t && ownE ts
def ownEs : List (List T) → Bool
  | [] => true
  | e :: es => ownE e && ownEs es
end
def cellAt (es : List (List T)) (i j : Nat) : Option T := (es[i]?).bind (·[j]?)
def rowAt : Nat → List (List T) → Path → Option (Nat × List (List T))
  | sz, es, [] => some (sz, es)
  | _, es, (i, j) :: p => match cellAt es i j with
    | some (.s true sz' es') => rowAt sz' es' p
    | _ => none
def setCell (es : List (List T)) (i j : Nat) (t : T) : List (List T) := match es[i]? with
  | some e => es.set i (e.set j t)
  | none => es
def setRow : List (List T) → Path → List (List T) → List (List T)
  | _, [], new => new
  | es, (i, j) :: p, new => match cellAt es i j with
    | some (.s o sz es') => setCell es i j (.s o sz (setRow es' p new))
    | _ => es
def setAt (es : List (List T)) (p : Path) (sz0 : Nat) (i j : Nat) (t : T) : List (List T) := match rowAt sz0 es p with
  | some (_, r) => setRow es p (setCell r i j t)
  | none => es
def splice : List T → Nat → List T → List T
  | e, _, [] => e
  | e, off, t :: ts => splice (e.set off t) (off + 1) ts
def T.isV : T → Bool
  | .v _ => true
  | _ => false
def szOf (P : Program) (t : TypeId) : Option Nat := (P.info? t).map (·.size)
def bytesOf (P : Program) (t : TypeId) : Option Nat := (P.info? t).map (·.bytes)
def aggOf (P : Program) (t : TypeId) : Option Bool := (P.underlying t).map fun | .struct _ => true | .array _ _ => true | _ => false
def elemOf (P : Program) (t : TypeId) : Option TypeId := match P.underlying t with
  | some (.slice e) => some e
  | _ => none
def fieldOf (P : Program) (t : TypeId) (f : Nat) : Option (Nat × Nat × Bool) := match P.underlying t with
  | some (.struct fs) => match fs[f]? with
    | some x => match szOf P x.type, aggOf P x.type with
      | some n, some g => if n = 0 then none else some (x.offset, n, g)
      | _, _ => none
    | none => none
  | _ => none
def kinds (P : Program) : Nat → TypeId → Option (List (Option Nat))
  | 0, _ => none
  | n + 1, t => match P.underlying t with
    | some (.slice e) => (szOf P e).map fun m => [some m]
    | some (.struct fs) => (fs.toList.mapM fun (f : Field) => kinds P n f.type).map List.flatten
    | some (.bool) => some [none]
    | some (.int _) => some [none]
    | some (.string) => some [none]
    | _ => none
def isNilS : Value → Bool
  | .slice none 0 0 => true
  | _ => false
def zeroTs : List (Option Nat) → List Value → Option (List T)
  | [], [] => some []
  | none :: ks, v :: vs => (zeroTs ks vs).map (T.v v :: ·)
  | some m :: ks, v :: vs => if isNilS v then (zeroTs ks vs).map (T.s true m [] :: ·) else none
  | _, _ => none
def zeroOf (P : Program) (t : TypeId) : Option (List T) := match P.info? t with
  | some i => match i.zero, kinds P 12 t with
    | some z, some ks => if z.cells.size = i.size then zeroTs ks z.cells.toList else none
    | _, _ => none
  | none => none
def constV : Value → V
  | .slice none 0 0 => .c .n
  | v => .c (.v v)
def getO (o : Operand) (k : V → M) : M := match o with
  | .tmp t => .get (.s t) fun
    | .v v => k v
    | _ => .bad
  | .const v => k (constV v)
  | .func f => k (.f f [])
  | .global _ => .bad
def getE (ov : Ws) (k : K) (f : Ent → M) : M := match ovl ov (.k k) with
  | some (.e e) => f e
  | some _ => .bad
  | none => .get (.k k) fun
    | .e e => f e
    | _ => .bad
def getR (ov : Ws) (k : K) (ver : Nat) (p : Path) (f : Ent → Nat → List (List T) → M) : M :=
  getE ov k fun e => .req (p = [] ∨ e.ver = ver) (match rowAt e.sz e.es p with
    | some (sz, es) => f e sz es
    | none => .bad)
def put (d : Option Tmp) (v : V) (ws : Ws) : M := match d with
  | some t => .ret ((.s t, .v v) :: ws)
  | none => .ret ws
def V.cells : V → Option (List C)
  | .c (.v (.agg _)) => none
  | .c .u => none
  | .c y => some [y]
  | .a ys => some ys
  | _ => none
def conv (ov : Ws) (kd : Option Nat) (c : C) (f : Ws → T → M) : M := match c with
  | .v x => .req (x.oneCell' = true) (f ov (.v x))
  | .b sz es => f ov (.s false sz es)
  | .n => match kd with
    | some m => f ov (.s true m [])
    | none => .bad
  | .u => .bad
  | .r k _ [] off len => getE ov k fun e => .req (off = 0 ∧ len = e.es.length) (f ((.k k, .gone) :: ov) (.s true e.sz e.es))
  | .r k ver (x :: p) off len => getR ov k ver (x :: p) fun e sz es =>
      .req (off = 0 ∧ len = es.length) (f ((.k k, .e { e with es := setAt e.es ((x :: p).dropLast) e.sz (((x :: p).getLast?).getD (0, 0)).1 (((x :: p).getLast?).getD (0, 0)).2 .d }) :: ov) (.s true sz es))
def convs (ov : Ws) : List (Option Nat) → List C → (Ws → List T → M) → M
  | [], [], f => f ov []
  | kd :: ks, c :: cs, f => conv ov kd c fun ov t => convs ov ks cs fun ov ts => f ov (t :: ts)
  | _, _, _ => .bad
def fresh (k : K) (m : M) : M := .get (.k k) fun
  | .none => m
  | _ => .bad
def toC (k : K) (ver : Nat) (p : Path) (i : Nat) : Nat → List T → List C
  | _, [] => []
  | j, .v x :: ts => .v x :: toC k ver p i (j + 1) ts
  | j, .s false sz es :: ts => .b sz es :: toC k ver p i (j + 1) ts
  | j, .s true _ es :: ts => .r k ver (p ++ [(i, j)]) 0 es.length :: toC k ver p i (j + 1) ts
  | j, .d :: ts => .u :: toC k ver p i (j + 1) ts
def toB : List T → List C
  | [] => []
  | .v x :: ts => .v x :: toB ts
  | .s false sz es :: ts => .b sz es :: toB ts
  | _ :: ts => .u :: toB ts
def whole (agg : Bool) (cs : List C) (k : V → M) : M := match agg, cs with
  | true, cs => k (.a cs)
  | false, [c] => k (.c c)
  | _, _ => .bad
def zeroC : List T → List C
  | [] => []
  | .v x :: ts => .v x :: zeroC ts
  | _ :: ts => .n :: zeroC ts
def spliceC : List C → Nat → List C → List C
  | e, _, [] => e
  | e, off, t :: ts => spliceC (e.set off t) (off + 1) ts
def allV : List C → Option (List Value)
  | [] => some []
  | .v x :: cs => (allV cs).map (x :: ·)
  | _ => none
end Go.Abs
namespace Go.Abs
open Go
def andI (k : IntKind) (x y : Int) : Int := k.wrap ((BitVec.ofInt k.bits x &&& BitVec.ofInt k.bits y).toNat : Nat)
def xorI (k : IntKind) (x y : Int) : Int := k.wrap ((BitVec.ofInt k.bits x ^^^ BitVec.ofInt k.bits y).toNat : Nat)
def shrI (k : IntKind) (x n : Int) : Int := x.fdiv (2 ^ min n.toNat k.bits)
def intBin (op : BinOp) (k : IntKind) (x y : Int) : Option Value := match op with
  | .add => some (.int k (k.wrap (x + y)))
  | .sub => some (.int k (k.wrap (x - y)))
  | .mul => some (.int k (k.wrap (x * y)))
  | .quo => if y = 0 then none else some (.int k (k.wrap (x.tdiv y)))
  | .rem => if y = 0 then none else some (.int k (x.tmod y))
  | .eql => some (.bool (x == y))
  | .neq => some (.bool (x != y))
  | .lss => some (.bool (decide (x < y)))
  | .leq => some (.bool (decide (x ≤ y)))
  | .gtr => some (.bool (decide (x > y)))
  | .geq => some (.bool (decide (x ≥ y)))
  | .and => some (.int k (andI k x y))
  | .xor => some (.int k (xorI k x y))
  | _ => none
inductive EK where
  | b | i | s
def eqV : EK → Value → Value → Option Bool
  | .i, .int k x, .int k' y => if k = k' then some (x == y) else none
  | .b, .bool x, .bool y => some (x == y)
  | .s, .string x, .string y => some (x.toList == y.toList)
  | _, _, _ => none
def eqVs : List EK → List Value → List Value → Option Bool
  | [], [], [] => some true
  | k :: ks, x :: xs, y :: ys => match eqV k x y, eqVs ks xs ys with
    | some a, some b => some (a && b)
    | _, _ => none
  | _, _, _ => none
def flatFs (P : Program) (rec : TypeId → Option (List EK)) : Nat → List Field → Option (List EK)
  | _, [] => some []
  | m, f :: fs => match rec f.type, szOf P f.type with
    | some l, some l' => if f.name ≠ "_" ∧ f.offset = m ∧ l.length = l' then (flatFs P rec (m + l.length) fs).map (l ++ ·) else none
    | _, _ => none
def flatEq (P : Program) : Nat → TypeId → Option (List EK)
  | 0, _ => none
  | n + 1, t => match P.underlying t with
    | some .bool => some [.b]
    | some (.int _) => some [.i]
    | some .string => some [.s]
    | some (.struct fs) => if P.stoodInHeld t then none else flatFs P (flatEq P n) 0 fs.toList
    | _ => none
def isStruct (P : Program) (t : TypeId) : Bool := (aggOf P t).getD false
def binM (P : Program) (op : BinOp) (t : TypeId) (x y : V) (k : V → M) : M := match x, y with
  | .c (.v (.int a m)), .c (.v (.int b n)) => if a = b then (match intBin op a m n with | some r => k (.c (.v r)) | none => .bad) else (match op with | .shr => .req (0 ≤ n) (k (.c (.v (.int a (shrI a m n))))) | _ => .bad)
  | .c (.v (.bool m)), .c (.v (.bool n)) => match P.underlying t, op with
    | some .bool, .eql => k (.c (.v (.bool (m == n))))
    | some .bool, .neq => k (.c (.v (.bool (!(m == n)))))
    | _, _ => .bad
  | .c (.v (.string m)), .c (.v (.string n)) => match op with
    | .add => .req (m.size + n.size ≤ 1073741824) (k (.c (.v (.string (m ++ n)))))
    | .eql => k (.c (.v (.bool (m.toList == n.toList))))
    | .neq => k (.c (.v (.bool !(m.toList == n.toList))))
    | _ => .bad
  | .a xs, .a ys => match allV xs, allV ys with
    | some xs, some ys => match isStruct P t, P.eqGuardType P.depth t, flatEq P 12 t with
      | true, false, some ks => match eqVs ks xs ys, op with
        | some r, .eql => k (.c (.v (.bool r)))
        | some r, .neq => k (.c (.v (.bool (!r))))
        | _, _ => .bad
      | _, _, _ => .bad
    | _, _ => .bad
  | .c (.b _ es), .c .n => match P.underlying t, op with
    | some (.slice _), .eql => match es with
      | [] => .any fun b => k (.c (.v (.bool b)))
      | _ :: _ => k (.c (.v (.bool false)))
    | _, _ => .bad
  | _, _ => .bad
def ptrTo (v : V) (off : Nat) (k : V → M) : M := match v with
  | .p r ver p i o => k (.p r ver p i (o + off))
  | .q sz es i o => k (.q sz es i (o + off))
  | _ => .bad
def lenV : V → Option Nat
  | .c (.b _ es) => some es.length
  | .c (.r _ _ _ _ len) => some len
  | .c .n => some 0
  | .c (.v (.slice _ n _)) => some n
  | _ => none
def minV : V → V → Option V
  | .c (.v (.int k x)), .c (.v (.int k' y)) => if k = k' then some (.c (.v (.int k (if y < x then y else x)))) else none
  | _, _ => none
def maxV : V → V → Option V
  | .c (.v (.int k x)), .c (.v (.int k' y)) => if k = k' then some (.c (.v (.int k (if y > x then y else x)))) else none
  | _, _ => none
def scalEs (es : List (List T)) : Bool := es.all fun e => e.all T.isV
def T.one : T → Bool
  | .v x => x.oneCell'
  | .s _ _ _ => true
  | .d => false
def oneEs (es : List (List T)) : Bool := es.all fun e => e.all T.one
def srcM (n : Nat) (x : V) (f : Ws → List (List T) → M) : M := match x with
  | .c .n => f [] []
  | .c (.b sz es) => .req ((sz = n ∨ es = []) ∧ oneEs es = true) (f [] es)
  | .c (.r k ver p off len) => getR [] k ver p fun _ sz es =>   .req (sz = n ∧ off + len ≤ es.length ∧ oneEs es = true)
      (if scalEs es then f [] ((es.drop off).take len) else .req (p = [] ∧ off = 0 ∧ len = es.length) (f [(.k k, .gone)] es))
  | _ => .bad
def holed (e : Ent) (p : Path) : Ent := { e with es := setAt e.es p.dropLast e.sz ((p.getLast?).getD (0, 0)).1 ((p.getLast?).getD (0, 0)).2 .d }
def gone (k : K) (p : Path) (e : Ent) : Loc × X := match p with
  | [] => (.k k, .gone)
  | _ :: _ => (.k k, .e (holed e p))
def appendM (P : Program) (ty : TypeId) (d : Tmp) (s x : V) : M := match elemOf P ty with
  | none => .bad
  | some el => match szOf P el, bytesOf P el with
    | some n, some by_ => fresh (d, 0) <| .req (n ≠ 0 ∧ (zeroOf P el).isSome = true) <| srcM n x fun ov news => match s with
      | .c .n => .req (news.length * by_ ≤ 140737488355328 ∧ news.length ≤ 140737488355328) (.ret ([(.s d, .v (.c (.r (d, 0) 0 [] 0 news.length))), (.k (d, 0), .e ⟨0, n, news⟩)] ++ ov))
      | .c (.r k ver p off len) => getR ov k ver p fun e sz es => .req (sz = n ∧ off + len ≤ es.length ∧ (len + news.length) * by_ ≤ 140737488355328 ∧ len + news.length ≤ 140737488355328)
          (.ret ([(.s d, .v (.c (.r (d, 0) 0 [] 0 (len + news.length)))), (.k (d, 0), .e ⟨0, n, (es.drop off).take len ++ news⟩), gone k p e] ++ ov))
      | _ => .bad
    | _, _ => .bad
def intV : V → Option Int
  | .c (.v (.int .i64 n)) => some n
  | _ => none
def appendZM (P : Program) (ty : TypeId) (d : Tmp) (s : V) (m : Int) : M := match s, elemOf P ty with
  | .c .n, some e => match zeroOf P e, szOf P e, bytesOf P e with
    | some z, some n, some by_ => fresh (d, 0) (.req (n ≠ 0 ∧ z.length = n ∧ 0 < m ∧ m.toNat * by_ ≤ 140737488355328 ∧ m.toNat ≤ 140737488355328) (.ret [(.s d, .v (.c (.r (d, 0) 0 [] 0 m.toNat))), (.k (d, 0), .e ⟨0, n, List.replicate m.toNat z⟩)]))
    | _, _, _ => .bad
  | _, _ => .bad
def appendIM (P : Program) (t t' : TypeId) (d : Tmp) (s x : V) : M := match P.underlying t', intV x with
  | some (.int .i64), some m => appendZM P t d s m
  | _, _ => .bad
structure Pl where
  n : Nat
  j : Nat
  k : K
  ver : Nat
  p : Path
  sz : Nat
  len : Nat
abbrev Acc := Ws × List Pl
def cellA (own : Bool) (n j : Nat) (ac : Acc) (kd : Option Nat) (c : C) (f : Acc → T → M) : M := match c with
  | .v x => f ac (.v x)
  | .b sz es => if own then .bad else f ac (.s false sz es)
  | .n => match own, kd with
    | false, some m => f ac (.s false m [])
    | true, _ => f ac (.v (.slice none 0 0))
    | _, _ => .bad
  | .u => if own then .bad else f ac .d
  | .r k ver p off len => getR ac.1 k ver p fun e sz es => match own with
    | true => .req (off = 0 ∧ len = es.length ∧ ownEs es = true) (f (gone k p e :: ac.1, ⟨n, j, k, e.ver, p, sz, es.length⟩ :: ac.2) (.s true sz es))
    | false => .req (off + len ≤ es.length) (f ac (.s false sz (borEs ((es.drop off).take len))))
def cellsA (own : Bool) (n : Nat) : Nat → Acc → List (Option Nat) → List C → (Acc → List T → M) → M
  | _, ac, [], [], f => f ac []
  | j, ac, kd :: ks, c :: cs, f => cellA own n j ac kd c fun ac t => cellsA own n (j + 1) ac ks cs fun ac ts => f ac (t :: ts)
  | _, _, _, _, _ => .bad
def capA (ov : Ws) (v : V) (f : A → M) : M := match v with
  | .p k ver p i off => getR ov k ver p fun _ sz es => .req (i < es.length) (f (.q sz (borEs es) i off))
  | .q sz es i off => f (.q sz es i off)
  | _ => .bad
def capsA (ov : Ws) : List V → (List A → M) → M
  | [], f => f []
  | v :: vs, f => capA ov v fun a => capsA ov vs fun as => f (a :: as)
def argA (P : Program) (own : Bool) (n : Nat) (ac : Acc) (ty : TypeId) (v : V) (f : Acc → A → M) : M := match v, kinds P 12 ty with
  | .c c, some [kd] => cellA own n 0 ac kd c fun ac t => f ac (.c t)
  | .a cs, some ks => cellsA own n 0 ac ks cs fun ac ts => f ac (.a ts)
  | .f fn caps, _ => capsA ac.1 caps fun as => f ac (.f fn as)
  | .p k ver p i off, _ => .req (own = true ∧ p = [] ∧ i = 0 ∧ off = 0) (cellA true n 0 ac none (.r k ver [] 0 1) fun ac t => match t with
    | .s true sz es => f ac (.p sz es)
    | _ => .bad)
  | _, _ => .bad
def argsA (P : Program) (md : Nat → Bool) : Nat → Acc → List TypeId → List V → (Acc → List A → M) → M
  | _, ac, [], [], f => f ac []
  | n, ac, ty :: tys, v :: vs, f => argA P (md n) n ac ty v fun ac a => argsA P md (n + 1) ac tys vs fun ac as => f ac (a :: as)
  | _, _, _, _, _ => .bad
def A.ts : A → List T
  | .c y => [y]
  | .a ys => ys
  | .p sz es => [.s true sz es]
  | _ => []
def T.plain : T → Bool
  | .v _ => true
  | .s own _ _ => own
  | .d => false
def A.plain : A → Bool
  | .c y => y.plain
  | .a ys => ys.all T.plain
  | .p _ _ => true
  | _ => false
mutual
def szT : T → Bool
  | .v _ => true
  | .d => true
  | .s _ sz es => (sz != 0) && szEs es
def szE : List T → Bool
  | [] => true
  | t :: ts => szT t && szE ts
def szEs : List (List T) → Bool
  | [] => true
  | e :: es => szE e && szEs es
end
def A.capOK : A → Bool
  | .q sz es _ _ => (sz != 0) && szEs es
  | _ => false
def T.lastOK : T → Bool
  | .v _ => true
  | .s own sz es => own || ((sz != 0) && szEs es)
  | .d => false
def A.lastOK : A → Bool
  | .c t => t.lastOK
  | .a ts => ts.all T.plain
  | .f _ caps => caps.all A.capOK
  | .q _ _ _ _ => false
  | .p _ _ => true
def plainL : List A → Bool
  | [] => true
  | [a] => a.lastOK
  | a :: b :: as => a.plain && plainL (b :: as)
def callable (pls : List Pl) (as cas : List A) : Bool := match pls with
  | [] => true
  | _ :: _ => plainL as && cas.isEmpty && (pls.all (·.p.isEmpty) || pls.length == 1 || pls.all (·.p.length == 1))
def backT (ov : Ws) (t : Option T) (pl : Pl) (f : Ws → M) : M := match t with
  | some (.s true sz es) => .req (sz = pl.sz ∧ es.length = pl.len) (match pl.p with
    | [] => match ovl ov (.k pl.k) with
      | some .gone => f ((.k pl.k, .e ⟨pl.ver + 1, sz, es⟩) :: ov)
      | _ => .bad
    | _ :: _ => getE ov pl.k fun e => match rowAt e.sz e.es pl.p.dropLast with
      | some (_, r1) => match cellAt r1 ((pl.p.getLast?).getD (0, 0)).1 ((pl.p.getLast?).getD (0, 0)).2 with
        | some .d => f ((.k pl.k, .e ⟨e.ver + 1, e.sz, setAt e.es pl.p.dropLast e.sz ((pl.p.getLast?).getD (0, 0)).1 ((pl.p.getLast?).getD (0, 0)).2 (.s true sz es)⟩) :: ov)
        | _ => .bad
      | none => .bad)
  | some .d => f ov
  | _ => .bad
def backs (ov : Ws) (fin : List A) : List Pl → (Ws → M) → M
  | [], f => f ov
  | pl :: ps, f => backT ov ((fin[pl.n]?).bind (·.ts[pl.j]?)) pl fun ov => backs ov fin ps f
def resC (d : Tmp) (n : Nat) : Nat → List T → (Ws → List C → M) → M
  | _, [], f => f [] []
  | j, .v x :: ts, f => resC d n (j + 1) ts fun ws cs => f ws (.v x :: cs)
  | j, .s true sz es :: ts, f => fresh (d, 64 * n + j) <| .req (j < 64) <| resC d n (j + 1) ts fun ws cs => f ((.k (d, 64 * n + j), .e ⟨0, sz, es⟩) :: ws) (.r (d, 64 * n + j) 0 [] 0 es.length :: cs)
  | _, _, _ => .bad
def resV (d : Tmp) (n : Nat) (a : A) (f : Ws → V → M) : M := match a with
  | .c t => resC d n 0 [t] fun ws cs => match cs with
    | [c] => f ws (.c c)
    | _ => .bad
  | .a ts => resC d n 0 ts fun ws cs => f ws (.a cs)
  | .p sz es => .req (es.length = 1) (resC d n 0 [.s true sz es] fun ws _ => f ws (.p (d, 64 * n) 0 [] 0 0))
  | _ => .bad
def resVs (d : Tmp) : Nat → List A → (Ws → List V → M) → M
  | _, [], f => f [] []
  | n, a :: as, f => resV d n a fun ws v => resVs d (n + 1) as fun ws' vs => f (ws ++ ws') (v :: vs)
def tupV : List V → V
  | [v] => v
  | vs => .t vs
def callM (P : Program) (md : Nat → Nat → Bool) (fn : Nat) (caps : List V) (tys : List TypeId) (args : List V) (d : Tmp) : M :=
  argsA P (md fn) 0 ([], []) tys args fun ac as => capsA ac.1 caps fun cas => .req (callable ac.2 as cas = true) <| .call fn (as ++ cas) fun fin res =>
    backs ac.1 fin ac.2 fun ov => resVs d 0 res fun ws vs => .ret ((.s d, .v (tupV vs)) :: (ws ++ ov))
def getOs : List Operand → (List V → M) → M
  | [], k => k []
  | o :: os, k => getO o fun v => getOs os fun vs => k (v :: vs)
def fillC (P : Program) (t : TypeId) : List C → List (Nat × V) → (List C → M) → M
  | cs, [], k => k cs
  | cs, (i, v) :: ps, k => match fieldOf P t i, v.cells with
    | some (off, n, _), some xs => .req (xs.length = n ∧ off + n ≤ cs.length) (fillC P t (spliceC cs off xs) ps k)
    | _, _ => .bad
def convsL (ks : List (Option Nat)) : Ws → List (List C) → (Ws → List (List T) → M) → M
  | ov, [], f => f ov []
  | ov, cs :: css, f => convs ov ks cs fun ov ts => convsL ks ov css fun ov tss => f ov (ts :: tss)
def partCells (n : Nat) : Nat → List (Nat × V) → Option (List (List C))
  | _, [] => some []
  | i, (j, v) :: ps => if j = i then (match v.cells, partCells n (i + 1) ps with
    | some cs, some css => if cs.length = n then some (cs :: css) else none
    | _, _ => none) else none
def getPs : List (Nat × Operand) → (List (Nat × V) → M) → M
  | [], k => k []
  | (i, o) :: os, k => getO o fun v => getPs os fun vs => k ((i, v) :: vs)
def boolV : V → Option Bool
  | .c (.v (.bool b)) => some b
  | _ => none
def optI (v : Option V) (dflt : Nat) (k : Int → M) : M := match v with
  | none => k dflt
  | some v => match intV v with
    | some n => k n
    | none => .bad
def getOpt (o : Option Operand) (k : Option V → M) : M := match o with
  | none => k none
  | some o => getO o fun v => k (some v)
def sliceM (n : Nat) (x : V) (lo hi : Int) (k : V → M) : M := match x with
  | .c (.b sz es) => .req (0 ≤ lo ∧ lo ≤ hi ∧ hi ≤ es.length ∧ sz = n) (k (.c (.b sz ((es.drop lo.toNat).take (hi - lo).toNat))))
  | .c (.r r ver p off len) => getR [] r ver p fun _ sz _ => .req (0 ≤ lo ∧ lo ≤ hi ∧ hi ≤ len ∧ sz = n) (k (.c (.r r ver p (off + lo.toNat) (hi - lo).toNat)))
  | .c .n => .req (lo = 0 ∧ hi = 0) (k (.c .n))
  | _ => .bad
def byteAt (s : ByteArray) (i : Nat) : Int := match s.data.toList[i]? with
  | some b => (b.toNat : Int)
  | none => 0
def lenS (P : Program) (t : TypeId) (x : Operand) (d : Option Tmp) : M := match P.underlying t with
  | some .string => getO x fun x => match x with
    | .c (.v (.string s)) => put d (.c (.v (.int .i64 s.size))) []
    | _ => .bad
  | _ => .bad
def idxS (P : Program) (t : TypeId) (x i : Operand) (d : Option Tmp) : M := match P.underlying t with
  | some .string => getO x fun x => getO i fun i => match x, i with
    | .c (.v (.string s)), .c (.v (.int _ i)) => .req (0 ≤ i ∧ i < s.size) (put d (.c (.v (.int .u8 (byteAt s i.toNat)))) [])
    | _, _ => .bad
  | _ => .bad
def convS (P : Program) (src dst : TypeId) (x : Operand) (d : Option Tmp) : M := match P.underlying src, P.underlying dst with
  | some (.slice e), some .string => match P.underlying e with
    | some (.int .u8) => getO x fun x => match x with
      | .c (.r k ver p off len) => getR [] k ver p fun _ sz es => match (es.drop off).take len with
        | [[.v (.int .u8 m)]] => .req (sz = 1 ∧ len = 1 ∧ 0 ≤ m ∧ m < 256) (put d (.c (.v (.string ⟨#[UInt8.ofNat m.toNat]⟩))) [])
        | _ => .bad
      | _ => .bad
    | _ => .bad
  | _, _ => .bad
class LentV where
  view : Value → Option (Nat × List (List T))
variable [LentV]
def opM (P : Program) (md : Nat → Nat → Bool) (o : Oper) : M := match o.op with
  | .move x | .assign x => getO x fun v => put o.dst v []
  | .pick c a b => getO c fun c => match boolV c with
    | some t => if t then getO a fun v => put o.dst v [] else getO b fun v => put o.dst v []
    | none => .bad
  | .alloc t => match o.dst, zeroOf P t, szOf P t with
    | some d, some z, some n => fresh (d, 0) (.req (n ≠ 0 ∧ z.length = n) (.ret [(.s d, .v (.p (d, 0) 0 [] 0 0)), (.k (d, 0), .e ⟨0, n, [z]⟩)]))
    | _, _, _ => .bad
  | .box t x => match o.dst, kinds P 12 t, szOf P t with
    | some d, some ks, some n => getO x fun v => match v.cells with
      | some cs => fresh (d, 0) (.req (n ≠ 0 ∧ cs.length = n) (convs [] ks cs fun ov ts => .ret ((.s d, .v (.p (d, 0) 0 [] 0 0)) :: (.k (d, 0), .e ⟨0, n, [ts]⟩) :: ov)))
      | none => .bad
    | _, _, _ => .bad
  | .build t parts => match isStruct P t, zeroOf P t with
    | true, some z => getPs parts.toList fun ps => fillC P t (zeroC z) ps fun cs => put o.dst (.a cs) []
    | _, _ => .bad
  | .buildSlice t len parts => match o.dst, elemOf P t with
    | some d, some e => match kinds P 12 e, szOf P e with
      | some ks, some n => getPs parts.toList fun ps => match partCells n 0 ps with
        | some css => fresh (d, 0) (.req (n ≠ 0 ∧ css.length = len ∧ len * n ≤ 16777216 ∧ (zeroOf P e).isSome = true) (convsL ks [] css fun ov es =>
          .ret ((.s d, .v (.c (.r (d, 0) 0 [] 0 len))) :: (.k (d, 0), .e ⟨0, n, es⟩) :: ov)))
        | none => .bad
      | _, _ => .bad
    | _, _ => .bad
  | .makeSlice t l c => match o.dst, elemOf P t with
    | some d, some e => match zeroOf P e, szOf P e, bytesOf P e with
      | some z, some n, some by_ => getO l fun l => getO c fun c => match intV l, intV c with
        | some l, some c => fresh (d, 0) (.req (n ≠ 0 ∧ z.length = n ∧ 0 ≤ l ∧ l = c ∧ l.toNat * by_ ≤ 140737488355328 ∧ l.toNat ≤ 140737488355328) (.ret [(.s d, .v (.c (.r (d, 0) 0 [] 0 l.toNat))), (.k (d, 0), .e ⟨0, n, List.replicate l.toNat z⟩)]))
        | _, _ => .bad
      | _, _, _ => .bad
    | _, _ => .bad
  | .load t a => match szOf P t, aggOf P t with
    | some n, some g => getO a fun v => match v with
      | .p k ver p i off => getR [] k ver p fun e _ es => match es[i]? with
        | some el => .req (n ≠ 0 ∧ off + n ≤ el.length) (whole g (toC k e.ver p i off ((el.drop off).take n)) fun v => put o.dst v [])
        | none => .bad
      | .q _ es i off => match es[i]? with
        | some el => .req (n ≠ 0 ∧ off + n ≤ el.length) (whole g (toB ((el.drop off).take n)) fun v => put o.dst v [])
        | none => .bad
      | _ => .bad
    | _, _ => .bad
  | .store t a x => match o.dst, szOf P t, kinds P 12 t with
    | none, some n, some ks => getO a fun a => getO x fun x => match a, x.cells with
      | .p k ver p i off, some cs => .req (cs.length = n ∧ n ≠ 0) (convs [] ks cs fun ov ts => getR ov k ver p fun e _ es => match es[i]? with
        | some el => .req (off + n ≤ el.length) (.ret ((.k k, .e ⟨if ts.all T.isV && ((el.drop off).take n).all T.isV then e.ver else e.ver + 1, e.sz, setRow e.es p (es.set i (splice el off ts))⟩) :: ov))
        | none => .bad)
      | _, _ => .bad
    | _, _, _ => .bad
  | .nilCheck x => getO x fun v => match v with
    | .p .. => put o.dst v []
    | .q .. => put o.dst v []
    | _ => .bad
  | .binOp op t x y _ => getO x fun x => getO y fun y => binM P op t x y fun v => put o.dst v []
  | .unOp op _ x => getO x fun x => match op, x with
    | .not, .c (.v (.bool b)) => put o.dst (.c (.v (.bool (!b)))) []
    | .neg, .c (.v (.int k n)) => put o.dst (.c (.v (.int k (k.wrap (0 - n))))) []
    | _, _ => .bad
  | .convert src dst x => match P.underlying src, P.underlying dst with
    | some (.int _), some (.int k) => getO x fun x => match x with
      | .c (.v (.int _ m)) => put o.dst (.c (.v (.int k (k.wrap m)))) []
      | _ => .bad
    | _, _ => convS P src dst x o.dst
  | .index t x i => idxS P t x i o.dst
  | .slice t x lo hi mx => match elemOf P t, mx with
    | some e, none => match szOf P e with
      | some n => getO x fun x => getOpt lo fun lo => getOpt hi fun hi => match lenV x with
        | some m => .req (n ≠ 0) (optI lo 0 fun lo => optI hi m fun hi => sliceM n x lo hi fun v => put o.dst v [])
        | none => .bad
      | none => .bad
    | _, _ => .bad
  | .fieldAddr s x f => match fieldOf P s f with
    | some (off, _, _) => getO x fun x => ptrTo x off fun v => put o.dst v []
    | none => .bad
  | .field s x f => match fieldOf P s f with
    | some (off, n, g) => getO x fun x => match x with
      | .a cs => .req (off + n ≤ cs.length) (whole g ((cs.drop off).take n) fun v => put o.dst v [])
      | _ => .bad
    | none => .bad
  | .indexAddr t x i => match elemOf P t with
    | some e => match szOf P e with
      | some n => getO x fun x => getO i fun i => match intV i with
        | some i => match x with
          | .c (.b sz es) => .req (0 ≤ i ∧ i < es.length ∧ sz = n) (put o.dst (.q sz es i.toNat 0) [])
          | .c (.r k ver p off len) => getR [] k ver p fun _ sz es => .req (0 ≤ i ∧ i < len ∧ off + len ≤ es.length ∧ sz = n) (put o.dst (.p k ver p (off + i.toNat) 0) [])
          | .c (.v y) => match LentV.view y with
            | some (sz, es) => .req (0 ≤ i ∧ i < es.length ∧ sz = n) (put o.dst (.q sz es i.toNat 0) [])
            | none => .bad
          | _ => .bad
        | none => .bad
      | none => .bad
    | none => .bad
  | .extract x n => getO x fun x => match x with
    | .t vs => match vs[n]? with
      | some v => put o.dst v []
      | none => .bad
    | _ => .bad
  | .makeFunc (.func f) first captured => if first.isEmpty then getOs captured.toList fun caps => put o.dst (.f f caps) [] else .bad
  | .call c => match c.callee, o.dst with
    | .value f, some d => getO f fun f => getOs c.args.toList fun args => match f with
      | .f fn caps => callM P md fn caps c.argTypes.toList args d
      | _ => .bad
    | .builtin .len, some _ => match c.args.toList, c.argTypes.toList with
      | [x], [t] => match elemOf P t with
        | some _ => getO x fun x => match lenV x with
          | some n => put o.dst (.c (.v (.int .i64 n))) []
          | none => .bad
        | none => lenS P t x o.dst
      | _, _ => .bad
    | .builtin .clear, none => match c.args.toList, c.argTypes.toList with
      | [x], [t] => match elemOf P t with
        | some el => match zeroOf P el, szOf P el with
          | some z, some n => getO x fun x => match x with
            | .c (.r k _ p off len) => getE [] k fun e => .req (p = [] ∧ e.sz = n ∧ n ≠ 0 ∧ off + len ≤ e.es.length ∧ scalEs e.es = true ∧ z.all T.isV = true ∧ z.all T.one = true) (.ret [(.k k, .e ⟨e.ver, e.sz, e.es.take off ++ (List.replicate len z ++ e.es.drop (off + len))⟩)])
            | _ => .bad
          | _, _ => .bad
        | none => .bad
      | _, _ => .bad
    | .builtin .cap, some _ => match c.args.toList, c.argTypes.toList with
      | [x], [t] => match elemOf P t with
        | some _ => getO x fun x => match x with
          | .c .n => put o.dst (.c (.v (.int .i64 0))) []
          | _ => .bad
        | none => .bad
      | _, _ => .bad
    | .builtin .append, some d => match c.args.toList, c.argTypes.toList with
      | [s, x], [t, t'] => match elemOf P t' with
        | some _ => getO s fun s => getO x fun x => appendM P t d s x
        | none => getO s fun s => getO x fun x => appendIM P t t' d s x
      | _, _ => .bad
    | .builtin .min, some _ => match c.args.toList with
      | [x, y] => getO x fun x => getO y fun y => match minV x y with
        | some v => put o.dst v []
        | none => .bad
      | _ => .bad
    | .builtin .max, some _ => match c.args.toList with
      | [x, y] => getO x fun x => getO y fun y => match maxV x y with
        | some v => put o.dst v []
        | none => .bad
      | _ => .bad
    | _, _ => .bad
  | _ => .bad
def operM (P : Program) (md : Nat → Nat → Bool) (ops : List Oper) (o : Oper) : M := match o.guard with
  | none => opM P md o
  | some (j, want) => match (ops[j]?).bind (·.dst) with
    | some t => .get (.s t) fun
      | .v (.c (.v (.bool b))) => if b = want then opM P md o else (match o.dst with
        | some d => .ret [(.s d, .v .u)]
        | none => .ret [])
      | .v .u => (match o.dst with
        | some d => .ret [(.s d, .v .u)]
        | none => .ret [])
      | _ => .bad
    | none => .bad
end Go.Abs
namespace Go.Abs
open Go
structure Hdr where
  b : Nat
  o : Nat
  cap : Nat
structure Cx where
  w0 : World
  X : Nat → Prop
  /-- where the rows lie that the call was handed -/
  H0 : K → Option Hdr
mutual
inductive Bor (w : World) (X : Nat → Prop) : Value → Nat → List (List T) → Prop
  | mk (a : Option Addr) (cap sz : Nat) (es : List (List T)) (b o : Nat) (g : Nat → Nat → Value) (hl : es.length ≤ cap)
      (hsz : ∀ (i : Nat) (e : List T), es[i]? = some e → e.length = sz) (ha : es = [] ∨ (a = some ⟨b, o, none⟩ ∧ ¬ X b))
      (hc : ∀ (i : Nat) (e : List T) (j : Nat) (t : T), es[i]? = some e → e[j]? = some t → w.cell? ⟨b, o + (i * sz + j), none⟩ = some (g i j))
      (ht : ∀ (i : Nat) (e : List T) (j : Nat) (t : T), es[i]? = some e → e[j]? = some t → BorT w X t (g i j)) : Bor w X (.slice a es.length cap) sz es
inductive BorT (w : World) (X : Nat → Prop) : T → Value → Prop
  | v (x : Value) : BorT w X (.v x) x
  | d (x : Value) : BorT w X .d x
  | s (y : Value) (sz : Nat) (es : List (List T)) (h : Bor w X y sz es) : BorT w X (.s false sz es) y
end
structure HRow where
  sz : Nat
  es : List (List T)
  hd : Path → Hdr
abbrev Ix := K ⊕ K
abbrev Heap := Ix → Option HRow
def Heap.at (H : Heap) (i : Ix) (p : Path) (sz : Nat) (es : List (List T)) (h : Hdr) : Prop :=
  ∃ r, H i = some r ∧ rowAt r.sz r.es p = some (sz, es) ∧ r.hd p = h
def TOK (cx : Cx) (h : Hdr) (t : T) (y : Value) : Prop := match t with
  | .v x => y = x
  | .d => True
  | .s false sz es => Bor cx.w0 cx.X y sz es
  | .s true _ es => ∃ a, y = .slice a es.length h.cap ∧ (h.cap ≠ 0 → a = some ⟨h.b, h.o, none⟩)
def RowOK (cx : Cx) (w : World) (ch : Nat → Nat → Hdr) (sz : Nat) (es : List (List T)) (h : Hdr) : Prop :=
  es.length ≤ h.cap ∧ (h.cap ≠ 0 → ∃ c E, w.heap[h.b]? = some (.cells c E (0, 0)) ∧ h.o + h.cap * sz ≤ c.size ∧
    ∀ (i : Nat) (e : List T), es[i]? = some e → e.length = sz ∧ ∀ (j : Nat) (t : T), e[j]? = some t → ∃ y, c[h.o + (i * sz + j)]? = some y ∧ TOK cx (ch i j) t y)
structure HeapOK (cx : Cx) (H : Heap) (w : World) : Prop where
  rows : ∀ i r p sz es, H i = some r → rowAt r.sz r.es p = some (sz, es) → RowOK cx w (fun i j => r.hd (p ++ [(i, j)])) sz es (r.hd p)
  inj : ∀ i p sz es h i' p' sz' es' h', H.at i p sz es h → H.at i' p' sz' es' h' → h.cap ≠ 0 → h'.cap ≠ 0 → h.b = h'.b → i = i' ∧ p = p'
  blk : ∀ i p sz es h, H.at i p sz es h → h.cap ≠ 0 → h.b < w.heap.size ∧ (cx.w0.heap.size ≤ h.b ∨ cx.X h.b)
structure Keep (cx : Cx) (w : World) : Prop where
  os : w.os = cx.w0.os
  tape : w.tape = cx.w0.tape
  output : w.output = cx.w0.output
  size : cx.w0.heap.size ≤ w.heap.size
  block : ∀ b, b < cx.w0.heap.size → ¬ cx.X b → w.heap[b]? = cx.w0.heap[b]?
class Amb extends LentV where
  ok : World → (Nat → Prop) → Prop
  stab : ∀ (w w' : World) (X X' : Nat → Prop), ok w X → w.heap.size ≤ w'.heap.size → (∀ b, b < w.heap.size → ¬ X b → w'.heap[b]? = w.heap[b]? ∧ ¬ X' b) → ok w' X'
  law : ∀ (w : World) (X : Nat → Prop) (y : Value) (sz : Nat) (es : List (List T)), view y = some (sz, es) → ok w X → Bor w X y sz es
instance (priority := low) Amb.none : Amb where
  view := fun _ => Option.none
  ok := fun _ _ => True
  stab := fun _ _ _ _ _ _ _ => trivial
  law := fun _ _ _ _ _ h => by cases h
theorem rowAt_append (sz : Nat) (es : List (List T)) (p q : Path) :
    rowAt sz es (p ++ q) = (rowAt sz es p).bind fun r => rowAt r.1 r.2 q := by
  induction p generalizing sz es with
  | nil => simp [rowAt]
  | cons x p ih =>
    obtain ⟨i, j⟩ := x
    simp only [List.cons_append, rowAt]
    split
    · exact ih _ _
    · rfl
theorem cellAt_setCell_same {es : List (List T)} {i j : Nat} {t : T} {u : T} (h : cellAt es i j = some u) : cellAt (setCell es i j t) i j = some t := by
  unfold cellAt setCell at *
  cases hi : es[i]? with
  | none => simp [hi] at h
  | some e =>
    simp only [hi, Option.bind_some] at h
    have hil := (List.getElem?_eq_some_iff.1 hi).1
    have hjl := (List.getElem?_eq_some_iff.1 h).1
    simp [hil, hjl]
theorem cellAt_setCell_ne {es : List (List T)} {i j i' j' : Nat} {t : T} (h : (i', j') ≠ (i, j)) : cellAt (setCell es i j t) i' j' = cellAt es i' j' := by
  unfold cellAt setCell
  cases hi : es[i]? with
  | none => rfl
  | some e =>
    have hil := (List.getElem?_eq_some_iff.1 hi).1
    by_cases hii : i' = i
    · subst hii
      have hjj : j' ≠ j := fun e => h (by rw [e])
      simp only [List.getElem?_set_self hil, Option.bind_some, hi]
      exact List.getElem?_set_ne (Ne.symm hjj)
    · rw [List.getElem?_set_ne (Ne.symm hii)]
theorem setCell_length (es : List (List T)) (i j : Nat) (t : T) : (setCell es i j t).length = es.length := by
  unfold setCell; split <;> simp
theorem getElem?_setCell {es : List (List T)} {i j : Nat} {t : T} {a : Nat} {e : List T} (h : (setCell es i j t)[a]? = some e) :
    ∃ e0, es[a]? = some e0 ∧ e.length = e0.length := by
  unfold setCell at h
  cases hi : es[i]? with
  | none => rw [hi] at h; exact ⟨e, h, rfl⟩
  | some e1 =>
    rw [hi] at h
    simp only [] at h
    have hil := (List.getElem?_eq_some_iff.1 hi).1
    by_cases ha : a = i
    · subst ha
      rw [List.getElem?_set_self hil] at h
      obtain rfl := Option.some.inj h
      exact ⟨e1, hi, by simp⟩
    · rw [List.getElem?_set_ne (Ne.symm ha)] at h
      exact ⟨e, h, rfl⟩
theorem setRow_length {es : List (List T)} {p : Path} {new : List (List T)} {sz sz' : Nat} {r : List (List T)} (h : rowAt sz es p = some (sz', r)) (hl : new.length = r.length) :
    (setRow es p new).length = es.length := by
  cases p with
  | nil => simp only [rowAt, Option.some.injEq, Prod.mk.injEq] at h; simp [setRow, hl, h.2]
  | cons x p =>
    obtain ⟨i, j⟩ := x
    simp only [setRow]
    split
    · exact setCell_length _ _ _ _
    · rfl
theorem rowAt_setRow : ∀ (p q : Path) (sz sz' : Nat) (es r new : List (List T)), rowAt sz es p = some (sz', r) →
    rowAt sz (setRow es p new) q = if p <+: q then rowAt sz' new (q.drop p.length) else if q <+: p then (rowAt sz es q).map (fun x => (x.1, setRow x.2 (p.drop q.length) new)) else rowAt sz es q := by
  intro p
  induction p with
  | nil =>
    intro q sz sz' es r new h
    simp only [rowAt, Option.some.injEq, Prod.mk.injEq] at h
    simp [setRow, h.1]
  | cons x p ih =>
    obtain ⟨i, j⟩ := x
    intro q sz sz' es r new h
    simp only [rowAt] at h
    cases hc : cellAt es i j with
    | none => simp [hc] at h
    | some t =>
      rw [hc] at h
      cases t with
      | v y => simp at h
      | d => simp at h
      | s o sz1 es1 =>
        cases o with
        | false => simp at h
        | true =>
          simp only [] at h
          cases q with
          | nil => simp [rowAt, setRow, hc]
          | cons y q =>
            obtain ⟨i', j'⟩ := y
            simp only [setRow, hc, rowAt]
            by_cases hij : (i', j') = (i, j)
            · obtain ⟨rfl, rfl⟩ := Prod.mk.inj hij
              rw [cellAt_setCell_same hc]
              simp only [hc]
              rw [ih q sz1 sz' es1 r new h]
              simp
            · rw [cellAt_setCell_ne hij]
              have h1 : ¬ ((i, j) :: p <+: (i', j') :: q) := by
                intro hh; exact hij (List.cons_prefix_cons.1 hh).1.symm
              have h2 : ¬ ((i', j') :: q <+: (i, j) :: p) := by
                intro hh; exact hij (List.cons_prefix_cons.1 hh).1
              rw [if_neg h1, if_neg h2]
end Go.Abs
namespace Go.Abs
open Go
def Heap.set (H : Heap) (i : Ix) (x : Option HRow) : Heap := fun j => if j = i then x else H j
theorem Heap.set_same (H : Heap) (i : Ix) (x : Option HRow) : H.set i x i = x := by simp [Heap.set]
theorem Heap.set_ne (H : Heap) {i j : Ix} (x : Option HRow) (h : j ≠ i) : H.set i x j = H j := by simp [Heap.set, h]
theorem rowAt_setCellAt {r : HRow} {p : Path} {sz : Nat} {es : List (List T)} {a b : Nat} {t : T} (hr : rowAt r.sz r.es p = some (sz, es)) (ht : ∀ z zs, t ≠ .s true z zs) (q : Path) (sz' : Nat) (es' : List (List T))
    (h : rowAt r.sz (setRow r.es p (setCell es a b t)) q = some (sz', es')) :
    (q = p ∧ sz' = sz ∧ es' = setCell es a b t) ∨ (q ≠ p ∧ ∃ es0, rowAt r.sz r.es q = some (sz', es0) ∧ es'.length = es0.length ∧ ¬ (p ++ [(a, b)] <+: q) ∧
      (es' = es0 ∨ ∃ x y p', q ++ (x, y) :: p' = p ∧ ∃ z zs zs', cellAt es0 x y = some (.s true z zs) ∧ es' = setCell es0 x y (.s true z zs') ∧ zs'.length = zs.length)) := by
  rw [rowAt_setRow p q _ _ _ _ _ hr] at h
  split at h
  · rename_i hpq
    obtain ⟨q', rfl⟩ := hpq
    rw [List.drop_left] at h
    cases q' with
    | nil => simp only [rowAt, Option.some.injEq, Prod.mk.injEq] at h; exact .inl ⟨by simp, h.1.symm, h.2.symm⟩
    | cons x q' =>
      obtain ⟨i, j⟩ := x
      have h0 := h
      simp only [rowAt] at h
      by_cases hij : (i, j) = (a, b)
      · obtain ⟨rfl, rfl⟩ := Prod.mk.inj hij
        cases hc : cellAt es i j with
        | none =>
          have : cellAt (setCell es i j t) i j = none := by
            unfold cellAt setCell at *
            cases hi : es[i]? with
            | none => simp [hi]
            | some e =>
              have hil := (List.getElem?_eq_some_iff.1 hi).1
              simp only [hi, Option.bind_some] at hc
              simp only [List.getElem?_set_self hil, Option.bind_some]
              rw [List.getElem?_eq_none_iff] at hc ⊢
              simpa using hc
          simp [this] at h
        | some u =>
          rw [cellAt_setCell_same hc] at h
          split at h
          · rename_i z zs hz; exact absurd (Option.some.inj hz) (ht z zs)
          · simp at h
      · rw [cellAt_setCell_ne hij] at h
        refine .inr ⟨by simp, es', ?_, rfl, ?_, .inl rfl⟩
        · rw [rowAt_append, hr]
          exact h
        · intro hp
          have := (List.prefix_append_right_inj p).1 hp
          exact hij (List.cons_prefix_cons.1 this).1.symm
  · rename_i hpq
    split at h
    · rename_i hqp
      obtain ⟨p', rfl⟩ := hqp
      cases p' with
      | nil => exact absurd (by simp) hpq
      | cons x p' =>
        obtain ⟨x, y⟩ := x
        cases h0 : rowAt r.sz r.es q with
        | none => simp [h0] at h
        | some v =>
          obtain ⟨sz0, es0⟩ := v
          rw [h0] at h
          simp only [Option.map_some, List.drop_left, Option.some.injEq, Prod.mk.injEq] at h
          obtain ⟨rfl, h⟩ := h
          rw [rowAt_append, h0] at hr
          simp only [Option.bind_some, rowAt] at hr
          cases hc : cellAt es0 x y with
          | none => simp [hc] at hr
          | some u =>
            rw [hc] at hr
            cases u with
            | v _ => simp at hr
            | d => simp at hr
            | s o z zs =>
              cases o with
              | false => simp at hr
              | true =>
                simp only [] at hr
                simp only [setRow, hc] at h
                refine .inr ⟨by simp, es0, rfl, ?_, ?_, .inr ⟨x, y, p', rfl, z, zs, _, hc, h.symm, setRow_length hr (setCell_length _ _ _ _)⟩⟩
                · rw [← h]; exact setCell_length _ _ _ _
                · intro hp
                  have := hp.length_le
                  simp at this
                  omega
    · rename_i hqp
      refine .inr ⟨fun e => hpq (e ▸ List.prefix_refl _), es', h, rfl, ?_, .inl rfl⟩
      intro hp
      exact hpq (List.IsPrefix.trans (List.prefix_append _ _) hp)
theorem getElem?_setCell_cell {es : List (List T)} {a b : Nat} {t : T} {i j : Nat} {e : List T} {u : T} (h : (setCell es a b t)[i]? = some e) (hu : e[j]? = some u) :
    ((i, j) = (a, b) ∧ u = t) ∨ ((i, j) ≠ (a, b) ∧ ∃ e0, es[i]? = some e0 ∧ e0[j]? = some u) := by
  have h1 : cellAt (setCell es a b t) i j = some u := by simp [cellAt, h, hu]
  by_cases hij : (i, j) = (a, b)
  · obtain ⟨rfl, rfl⟩ := Prod.mk.inj hij
    cases hc : cellAt es i j with
    | none =>
      unfold cellAt setCell at *
      cases hi : es[i]? with
      | none => simp [hi] at h1
      | some e =>
        have hil := (List.getElem?_eq_some_iff.1 hi).1
        simp only [hi, Option.bind_some] at hc
        simp only [hi, List.getElem?_set_self hil, Option.bind_some] at h1
        rw [List.getElem?_eq_none_iff] at hc
        have := (List.getElem?_eq_some_iff.1 h1).1
        simp at this
        omega
    | some v => rw [cellAt_setCell_same hc] at h1; exact .inl ⟨rfl, (Option.some.inj h1).symm⟩
  · rw [cellAt_setCell_ne hij] at h1
    unfold cellAt at h1
    cases hi : es[i]? with
    | none => simp [hi] at h1
    | some e0 => rw [hi] at h1; exact .inr ⟨hij, e0, rfl, h1⟩
theorem RowOK.congr {cx : Cx} {w w' : World} {ch ch' : Nat → Nat → Hdr} {sz : Nat} {es : List (List T)} {h : Hdr} (hk : RowOK cx w ch sz es h)
    (hw : h.cap ≠ 0 → w'.heap[h.b]? = w.heap[h.b]?) (hh : ∀ i j z zs, cellAt es i j = some (.s true z zs) → ch' i j = ch i j) : RowOK cx w' ch' sz es h := by
  refine ⟨hk.1, fun hc => ?_⟩
  obtain ⟨c, E, h1, h2, h3⟩ := hk.2 hc
  refine ⟨c, E, by rw [hw hc]; exact h1, h2, fun i e he => ⟨(h3 i e he).1, fun j t ht => ?_⟩⟩
  obtain ⟨y, hy, hok⟩ := (h3 i e he).2 j t ht
  refine ⟨y, hy, ?_⟩
  cases t with
  | v x => exact hok
  | d => trivial
  | s o z zs =>
    cases o with
    | false => exact hok
    | true => rw [hh i j z zs (by simp [cellAt, he, ht])]; exact hok
theorem RowOK.setLen {cx : Cx} {w : World} {ch : Nat → Nat → Hdr} {sz : Nat} {es : List (List T)} {h : Hdr} (hk : RowOK cx w ch sz es h) {x y : Nat} {z : Nat} {zs zs' : List (List T)} (hc : cellAt es x y = some (.s true z zs)) (hl : zs'.length = zs.length) :
    RowOK cx w ch sz (setCell es x y (.s true z zs')) h := by
  refine ⟨by rw [setCell_length]; exact hk.1, fun h0 => ?_⟩
  obtain ⟨c, E, h1, h2, h3⟩ := hk.2 h0
  refine ⟨c, E, h1, h2, fun i e he => ?_⟩
  obtain ⟨e0, he0, hlen⟩ := getElem?_setCell he
  refine ⟨hlen.trans (h3 i e0 he0).1, fun j t ht => ?_⟩
  rcases getElem?_setCell_cell he ht with ⟨hij, rfl⟩ | ⟨_, e1, he1, ht1⟩
  · obtain ⟨rfl, rfl⟩ := Prod.mk.inj hij
    unfold cellAt at hc
    cases hi : es[i]? with
    | none => simp [hi] at hc
    | some e2 =>
      rw [hi] at hc
      obtain ⟨v, hv, hok⟩ := (h3 i e2 hi).2 j _ hc
      refine ⟨v, hv, ?_⟩
      obtain ⟨a, ha, hb⟩ := hok
      exact ⟨a, by rw [ha, hl], hb⟩
  · exact (h3 i e1 he1).2 j t ht1
end Go.Abs
namespace Go.Abs
open Go
theorem setCell_block_same {w : World} {a : Addr} {y : Value} {c : Array Value} {E : TypeId} {fz : Nat × Nat} (hs : a.spot = none) (h : w.heap[a.block]? = some (.cells c E fz)) :
    (w.setCell a y).heap[a.block]? = some (.cells (c.setIfInBounds a.off y) E fz) := by
  simp [World.setCell, Array.getElem?_modify, h, hs]
theorem setCell_block_ne {w : World} {a : Addr} {y : Value} {b : Nat} (h : b ≠ a.block) : (w.setCell a y).heap[b]? = w.heap[b]? := by
  simp only [World.setCell, Array.getElem?_modify]
  rw [if_neg (fun e => h e.symm)]
theorem setCell_heap_size (w : World) (a : Addr) (y : Value) : (w.setCell a y).heap.size = w.heap.size := by
  simp [World.setCell]
theorem HeapOK.row {cx : Cx} {H : Heap} {w : World} (hk : HeapOK cx H w) {i : Ix} {r : HRow} {p : Path} {sz : Nat} {es : List (List T)} (hi : H i = some r) (hr : rowAt r.sz r.es p = some (sz, es)) : RowOK cx w (fun i j => r.hd (p ++ [(i, j)])) sz es (r.hd p) :=
  hk.rows i r p sz es hi hr
theorem at_of_set {H : Heap} {i : Ix} {r : HRow} {p : Path} {sz : Nat} {es : List (List T)} {a b : Nat} {t : T} (hi : H i = some r) (hr : rowAt r.sz r.es p = some (sz, es)) (ht : ∀ z zs, t ≠ .s true z zs)
    {j : Ix} {q : Path} {sz' : Nat} {es' : List (List T)} {h : Hdr} (hat : Heap.at (H.set i (some { r with es := setRow r.es p (setCell es a b t) })) j q sz' es' h) :
    ∃ es0, H.at j q sz' es0 h ∧ es0.length = es'.length := by
  obtain ⟨r', hr', hrow, rfl⟩ := hat
  by_cases hj : j = i
  · subst hj
    rw [Heap.set_same] at hr'
    obtain rfl := Option.some.inj hr'
    rcases rowAt_setCellAt hr ht q sz' es' hrow with ⟨rfl, rfl, rfl⟩ | ⟨_, es0, h0, hl, _, _⟩
    · exact ⟨es, ⟨r, hi, hr, rfl⟩, (setCell_length _ _ _ _).symm⟩
    · exact ⟨es0, ⟨r, hi, h0, rfl⟩, hl.symm⟩
  · rw [Heap.set_ne _ _ hj] at hr'
    exact ⟨es', ⟨r', hr', hrow, rfl⟩, rfl⟩
theorem cap_ne {cx : Cx} {w : World} {ch : Nat → Nat → Hdr} {sz : Nat} {es : List (List T)} {h : Hdr} (hk : RowOK cx w ch sz es h) {a : Nat} {e : List T} (ha : es[a]? = some e) : h.cap ≠ 0 := by
  have := (List.getElem?_eq_some_iff.1 ha).1
  have := hk.1
  omega
theorem idx_lt {a n b sz cap : Nat} (h : a < n) (hn : n ≤ cap) (hb : b < sz) : a * sz + b < cap * sz := by
  have : (a + 1) * sz ≤ cap * sz := Nat.mul_le_mul_right _ (by omega)
  rw [Nat.add_mul, Nat.one_mul] at this
  omega
theorem idx_inj {a b a' b' sz : Nat} (hb : b < sz) (hb' : b' < sz) (h : a * sz + b = a' * sz + b') : a = a' ∧ b = b' := by
  have hs : 0 < sz := by omega
  have h1 : (a * sz + b) / sz = a := by rw [Nat.mul_comm, Nat.mul_add_div hs, Nat.div_eq_of_lt hb]; omega
  have h2 : (a' * sz + b') / sz = a' := by rw [Nat.mul_comm, Nat.mul_add_div hs, Nat.div_eq_of_lt hb']; omega
  have ha : a = a' := by rw [← h1, ← h2, h]
  subst ha
  exact ⟨rfl, by omega⟩
theorem HeapOK.store {cx : Cx} {H : Heap} {w : World} (hk : HeapOK cx H w) {i : Ix} {r : HRow} {p : Path} {sz : Nat} {es : List (List T)} {a b : Nat} {e : List T}
    (hi : H i = some r) (hr : rowAt r.sz r.es p = some (sz, es)) (ha : es[a]? = some e) (hb : b < sz) (y : Value) :
    HeapOK cx (H.set i (some { r with es := setRow r.es p (setCell es a b .d) })) (w.setCell ⟨(r.hd p).b, (r.hd p).o + (a * sz + b), none⟩ y) := by
  have hrow := hk.row hi hr
  have hcap := cap_ne hrow ha
  obtain ⟨c, E, h1, h2, h3⟩ := hrow.2 hcap
  have hal := (List.getElem?_eq_some_iff.1 ha).1
  have hidx := idx_lt hal hrow.1 hb
  have hT : ∀ z zs, (T.d : T) ≠ .s true z zs := fun _ _ h => T.noConfusion h
  refine ⟨?_, ?_, ?_⟩
  · intro j r' q sz' es' hj hq
    by_cases hji : j = i
    · subst hji
      rw [Heap.set_same] at hj
      obtain rfl := Option.some.inj hj
      rcases rowAt_setCellAt hr hT q sz' es' hq with ⟨rfl, rfl, rfl⟩ | ⟨hne, es0, h0, hl, _, hes⟩
      · refine ⟨by rw [setCell_length]; exact hrow.1, fun _ => ?_⟩
        refine ⟨_, E, setCell_block_same rfl h1, by simpa using h2, fun i' e' he' => ?_⟩
        obtain ⟨e0, he0, hlen⟩ := getElem?_setCell he'
        refine ⟨hlen.trans (h3 i' e0 he0).1, fun j' t ht => ?_⟩
        rcases getElem?_setCell_cell he' ht with ⟨hij, rfl⟩ | ⟨hij, e1, he1, ht1⟩
        · obtain ⟨rfl, rfl⟩ := Prod.mk.inj hij
          exact ⟨y, by rw [Array.getElem?_setIfInBounds_self_of_lt (by simp only []; omega)], trivial⟩
        · obtain ⟨v, hv, hok⟩ := (h3 i' e1 he1).2 j' t ht1
          refine ⟨v, ?_, hok⟩
          rw [Array.getElem?_setIfInBounds_ne (fun hE => ?_)]
          · exact hv
          · have hj' : j' < sz' := by rw [← (h3 i' e1 he1).1]; exact (List.getElem?_eq_some_iff.1 ht1).1
            have : a * sz' + b = i' * sz' + j' := by simp only [] at hE; omega
            obtain ⟨rfl, rfl⟩ := idx_inj hb hj' this
            exact hij rfl
      · have hrow0 := hk.row hi h0
        have hrow1 : RowOK cx (w.setCell ⟨(r.hd p).b, (r.hd p).o + (a * sz + b), none⟩ y) (fun i j => r.hd (q ++ [(i, j)])) sz' es0 (r.hd q) := by
          refine hrow0.congr (fun hc => setCell_block_ne (fun hE => ?_)) (fun _ _ _ _ _ => rfl)
          exact hne (hk.inj j q _ _ _ j p _ _ _ ⟨r, hi, h0, rfl⟩ ⟨r, hi, hr, rfl⟩ hc hcap hE).2
        rcases hes with rfl | ⟨x, y', p', _, z, zs, zs', hc, rfl, hzl⟩
        · exact hrow1
        · exact hrow1.setLen hc hzl
    · rw [Heap.set_ne _ _ hji] at hj
      have hrow0 := hk.row hj hq
      refine hrow0.congr (fun hc => setCell_block_ne (fun hE => ?_)) (fun _ _ _ _ _ => rfl)
      exact hji (hk.inj j q _ _ _ i p _ _ _ ⟨r', hj, hq, rfl⟩ ⟨r, hi, hr, rfl⟩ hc hcap hE).1
  · intro j q s1 e1 g1 j' q' s2 e2 g2 h1 h2
    obtain ⟨_, h1, _⟩ := at_of_set hi hr hT h1
    obtain ⟨_, h2, _⟩ := at_of_set hi hr hT h2
    exact hk.inj _ _ _ _ _ _ _ _ _ _ h1 h2
  · intro j q s1 e1 g1 h1 hc
    obtain ⟨_, h1, _⟩ := at_of_set hi hr hT h1
    rw [setCell_heap_size]
    exact hk.blk _ _ _ _ _ h1 hc
theorem HeapOK.refine {cx : Cx} {H : Heap} {w : World} (hk : HeapOK cx H w) {i : Ix} {r : HRow} {p : Path} {sz : Nat} {es : List (List T)} {a b : Nat} {t : T} {y : Value}
    (hi : H i = some r) (hr : rowAt r.sz r.es p = some (sz, es)) (hy : ∀ e, es[a]? = some e → w.cell? ⟨(r.hd p).b, (r.hd p).o + (a * sz + b), none⟩ = some y) (ht : ∀ z zs, t ≠ .s true z zs) (hok : ∀ h, TOK cx h t y) :
    HeapOK cx (H.set i (some { r with es := setRow r.es p (setCell es a b t) })) w := by
  refine ⟨?_, ?_, ?_⟩
  · intro j r' q sz' es' hj hq
    by_cases hji : j = i
    · subst hji
      rw [Heap.set_same] at hj
      obtain rfl := Option.some.inj hj
      rcases rowAt_setCellAt hr ht q sz' es' hq with ⟨rfl, rfl, rfl⟩ | ⟨hne, es0, h0, hl, _, hes⟩
      · have hrow := hk.row hi hr
        refine ⟨by rw [setCell_length]; exact hrow.1, fun hcap => ?_⟩
        obtain ⟨c, E, h1, h2, h3⟩ := hrow.2 hcap
        refine ⟨c, E, h1, h2, fun i' e' he' => ?_⟩
        obtain ⟨e0, he0, hlen⟩ := getElem?_setCell he'
        refine ⟨hlen.trans (h3 i' e0 he0).1, fun j' u hu => ?_⟩
        rcases getElem?_setCell_cell he' hu with ⟨hij, rfl⟩ | ⟨hij, e1, he1, ht1⟩
        · obtain ⟨rfl, rfl⟩ := Prod.mk.inj hij
          refine ⟨y, ?_, hok _⟩
          have := hy e0 he0
          simpa [World.cell?, h1] using this
        · exact (h3 i' e1 he1).2 j' u ht1
      · have hrow0 := hk.row hi h0
        rcases hes with rfl | ⟨x, y', p', _, z, zs, zs', hc, rfl, hzl⟩
        · exact hrow0
        · exact hrow0.setLen hc hzl
    · rw [Heap.set_ne _ _ hji] at hj
      exact hk.row hj hq
  · intro j q s1 e1 g1 j' q' s2 e2 g2 h1 h2
    obtain ⟨_, h1, _⟩ := at_of_set hi hr ht h1
    obtain ⟨_, h2, _⟩ := at_of_set hi hr ht h2
    exact hk.inj _ _ _ _ _ _ _ _ _ _ h1 h2
  · intro j q s1 e1 g1 h1 hc
    obtain ⟨_, h1, _⟩ := at_of_set hi hr ht h1
    exact hk.blk _ _ _ _ _ h1 hc
end Go.Abs
namespace Go.Abs
open Go
theorem rowAt_setCellAt' {sz0 : Nat} {es0 : List (List T)} {p : Path} {sz : Nat} {es : List (List T)} {a b : Nat} {t : T} (hr : rowAt sz0 es0 p = some (sz, es)) (q : Path) (sz' : Nat) (es' : List (List T))
    (h : rowAt sz0 (setRow es0 p (setCell es a b t)) q = some (sz', es')) :
    (q = p ∧ sz' = sz ∧ es' = setCell es a b t) ∨ (∃ q' z zs, t = .s true z zs ∧ q = p ++ (a, b) :: q' ∧ rowAt z zs q' = some (sz', es')) ∨
    (q ≠ p ∧ ∃ e1, rowAt sz0 es0 q = some (sz', e1) ∧ es'.length = e1.length ∧ ¬ (p ++ [(a, b)] <+: q) ∧
      (es' = e1 ∨ ∃ x y p', q ++ (x, y) :: p' = p ∧ ∃ z zs zs', cellAt e1 x y = some (.s true z zs) ∧ es' = setCell e1 x y (.s true z zs') ∧ zs'.length = zs.length)) := by
  by_cases ht : ∃ z zs, t = .s true z zs
  · obtain ⟨z, zs, rfl⟩ := ht
    by_cases hq : p ++ [(a, b)] <+: q
    · obtain ⟨q', rfl⟩ := hq
      refine .inr (.inl ⟨q', z, zs, rfl, by simp, ?_⟩)
      rw [rowAt_setRow p _ _ _ _ _ _ hr, if_pos (by rw [List.append_assoc]; exact List.prefix_append _ _)] at h
      rw [List.append_assoc, List.drop_left] at h
      simp only [List.singleton_append, rowAt] at h
      cases hc : cellAt es a b with
      | none =>
        have : cellAt (setCell es a b (.s true z zs)) a b = none := by
          unfold cellAt setCell at *
          cases hi : es[a]? with
          | none => simp [hi]
          | some e =>
            have hil := (List.getElem?_eq_some_iff.1 hi).1
            simp only [hi, Option.bind_some] at hc
            simp only [List.getElem?_set_self hil, Option.bind_some]
            rw [List.getElem?_eq_none_iff] at hc ⊢
            simpa using hc
        simp [this] at h
      | some u => rw [cellAt_setCell_same hc] at h; exact h
    · -- nothing below the changed cell: as with a cell that owns nothing
      have h2 : rowAt sz0 (setRow es0 p (setCell es a b .d)) q = rowAt sz0 (setRow es0 p (setCell es a b .d)) q := rfl
      rw [rowAt_setRow p _ _ _ _ _ _ hr] at h
      split at h
      · rename_i hpq
        obtain ⟨q', rfl⟩ := hpq
        rw [List.drop_left] at h
        cases q' with
        | nil => simp only [rowAt, Option.some.injEq, Prod.mk.injEq] at h; exact .inl ⟨by simp, h.1.symm, h.2.symm⟩
        | cons x q' =>
          obtain ⟨i, j⟩ := x
          simp only [rowAt] at h
          have hij : (i, j) ≠ (a, b) := by
            intro e
            obtain ⟨rfl, rfl⟩ := Prod.mk.inj e
            exact hq (by rw [show p ++ (i, j) :: q' = (p ++ [(i, j)]) ++ q' by simp]; exact List.prefix_append _ _)
          rw [cellAt_setCell_ne hij] at h
          refine .inr (.inr ⟨by simp, es', ?_, rfl, hq, .inl rfl⟩)
          rw [rowAt_append, hr]
          exact h
      · rename_i hpq
        split at h
        · rename_i hqp
          obtain ⟨p', rfl⟩ := hqp
          cases p' with
          | nil => exact absurd (by simp) hpq
          | cons x p' =>
            obtain ⟨x, y⟩ := x
            cases h0 : rowAt sz0 es0 q with
            | none => simp [h0] at h
            | some v =>
              obtain ⟨sz1, e1⟩ := v
              rw [h0] at h
              simp only [Option.map_some, List.drop_left, Option.some.injEq, Prod.mk.injEq] at h
              obtain ⟨rfl, h⟩ := h
              rw [rowAt_append, h0] at hr
              simp only [Option.bind_some, rowAt] at hr
              cases hc : cellAt e1 x y with
              | none => simp [hc] at hr
              | some u =>
                rw [hc] at hr
                cases u with
                | v _ => simp at hr
                | d => simp at hr
                | s o z1 zs1 =>
                  cases o with
                  | false => simp at hr
                  | true =>
                    simp only [] at hr
                    simp only [setRow, hc] at h
                    refine .inr (.inr ⟨by simp, e1, rfl, ?_, hq, .inr ⟨x, y, p', rfl, z1, zs1, _, hc, h.symm, setRow_length hr (setCell_length _ _ _ _)⟩⟩)
                    rw [← h]; exact setCell_length _ _ _ _
        · rename_i hqp
          exact .inr (.inr ⟨fun e => hpq (e ▸ List.prefix_refl _), es', h, rfl, hq, .inl rfl⟩)
  · rcases rowAt_setCellAt (r := ⟨sz0, es0, fun _ => ⟨0, 0, 0⟩⟩) hr (fun z zs e => ht ⟨z, zs, e⟩) q sz' es' h with h | h
    · exact .inl h
    · exact .inr (.inr h)
def graft (hd : Path → Hdr) (c : Path) (g : Path → Hdr) : Path → Hdr := fun q => if c <+: q then g (q.drop c.length) else hd q
theorem graft_under (hd : Path → Hdr) (c : Path) (g : Path → Hdr) (q : Path) : graft hd c g (c ++ q) = g q := by
  simp [graft]
theorem graft_self (hd : Path → Hdr) (c : Path) (g : Path → Hdr) : graft hd c g c = g [] := by
  simp [graft]
theorem graft_not {hd : Path → Hdr} {c : Path} {g : Path → Hdr} {q : Path} (h : ¬ c <+: q) : graft hd c g q = hd q := by
  simp [graft, h]
theorem not_prefix_child {p : Path} {x y : Nat × Nat} (h : x ≠ y) : ¬ (p ++ [x] <+: p ++ [y]) := by
  intro hh
  have := (List.prefix_append_right_inj p).1 hh
  exact h (List.cons_prefix_cons.1 this).1
theorem prefix_child {p q : Path} {x y : Nat × Nat} (h : p ++ [x] <+: q ++ [y]) : p ++ [x] <+: q ∨ (p = q ∧ x = y) := by
  rcases List.prefix_concat_iff.1 h with h | h
  · have := List.append_inj' h rfl
    exact .inr ⟨this.1, by simpa using this.2⟩
  · exact .inl h
theorem not_prefix_self {p : Path} {x : Nat × Nat} : ¬ (p ++ [x] <+: p) := by
  intro h; have := h.length_le; simp at this; omega
theorem HeapOK.attach {cx : Cx} {H : Heap} {w : World} (hk : HeapOK cx H w) {i i2 : Ix} {r f : HRow} {p : Path} {sz : Nat} {es : List (List T)} {a b : Nat} {y : Value}
    (hi : H i = some r) (hr : rowAt r.sz r.es p = some (sz, es)) (hf : H i2 = some f) (hne : i2 ≠ i) (hcell : ∀ z zs, cellAt es a b ≠ some (.s true z zs))
    (hy : ∀ e, es[a]? = some e → w.cell? ⟨(r.hd p).b, (r.hd p).o + (a * sz + b), none⟩ = some y) (hok : TOK cx (f.hd []) (.s true f.sz f.es) y) :
    HeapOK cx ((H.set i (some ⟨r.sz, setRow r.es p (setCell es a b (.s true f.sz f.es)), graft r.hd (p ++ [(a, b)]) f.hd⟩)).set i2 none) w := by
  have key : ∀ j q sz' es' r', ((H.set i (some ⟨r.sz, setRow r.es p (setCell es a b (.s true f.sz f.es)), graft r.hd (p ++ [(a, b)]) f.hd⟩)).set i2 none) j = some r' → rowAt r'.sz r'.es q = some (sz', es') →
      RowOK cx w (fun i j => r'.hd (q ++ [(i, j)])) sz' es' (r'.hd q) ∧ ∃ j0 q0 e0, H.at j0 q0 sz' e0 (r'.hd q) ∧ ((j = i ∧ j0 = i2 ∧ q = p ++ (a, b) :: q0) ∨ (j0 = j ∧ q0 = q ∧ j ≠ i2 ∧ (j = i → ¬ p ++ [(a, b)] <+: q))) := by
    intro j q sz' es' r' hj hq
    by_cases hj2 : j = i2
    · subst hj2; rw [Heap.set_same] at hj; simp at hj
    rw [Heap.set_ne _ _ hj2] at hj
    by_cases hji : j = i
    · subst hji
      rw [Heap.set_same] at hj
      obtain rfl := Option.some.inj hj
      rcases rowAt_setCellAt' hr q sz' es' hq with ⟨rfl, rfl, rfl⟩ | ⟨q', z, zs, hz, rfl, hrow'⟩ | ⟨hqp, e1, h0, hl, hnp, hes⟩
      · have hrow := hk.row hi hr
        simp only [graft_not not_prefix_self]
        refine ⟨⟨by rw [setCell_length]; exact hrow.1, fun hcap => ?_⟩, j, q, es, ⟨r, hi, hr, rfl⟩, .inr ⟨rfl, rfl, hj2, fun _ => not_prefix_self⟩⟩
        obtain ⟨c, E, h1, h2, h3⟩ := hrow.2 hcap
        refine ⟨c, E, h1, h2, fun i' e' he' => ?_⟩
        obtain ⟨e0, he0, hlen⟩ := getElem?_setCell he'
        refine ⟨hlen.trans (h3 i' e0 he0).1, fun j' u hu => ?_⟩
        rcases getElem?_setCell_cell he' hu with ⟨hij, rfl⟩ | ⟨hij, e1, he1, ht1⟩
        · obtain ⟨rfl, rfl⟩ := Prod.mk.inj hij
          refine ⟨y, ?_, ?_⟩
          · have := hy e0 he0
            simpa [World.cell?, h1] using this
          · simp only [graft_self]; exact hok
        · obtain ⟨v, hv, hok1⟩ := (h3 i' e1 he1).2 j' u ht1
          refine ⟨v, hv, ?_⟩
          simp only [graft_not (not_prefix_child (Ne.symm hij))]
          exact hok1
      · simp only [T.s.injEq, true_and] at hz
        obtain ⟨rfl, rfl⟩ := hz
        have hrow := hk.row hf hrow'
        have e1 : p ++ (a, b) :: q' = (p ++ [(a, b)]) ++ q' := by simp
        refine ⟨?_, i2, q', es', ⟨f, hf, hrow', by simp only [e1, graft_under]⟩, .inl ⟨rfl, rfl, rfl⟩⟩
        simp only [e1, graft_under]
        refine hrow.congr (fun _ => rfl) (fun x y _ _ _ => ?_)
        simp only [List.append_assoc (p ++ [(a, b)]), graft_under]
      · have hrow0 := hk.row hi h0
        refine ⟨?_, j, q, e1, ⟨r, hi, h0, by simp only [graft_not hnp]⟩, .inr ⟨rfl, rfl, hj2, fun _ => hnp⟩⟩
        simp only [graft_not hnp]
        have hrow1 : RowOK cx w (fun i j => graft r.hd (p ++ [(a, b)]) f.hd (q ++ [(i, j)])) sz' e1 (r.hd q) := by
          refine hrow0.congr (fun _ => rfl) (fun x y' z zs hc => ?_)
          refine graft_not (fun hh => ?_)
          rcases prefix_child hh with hh | ⟨rfl, _⟩
          · exact hnp hh
          · exact hqp rfl
        rcases hes with rfl | ⟨x, y', p', _, z, zs, zs', hc, rfl, hzl⟩
        · exact hrow1
        · exact hrow1.setLen hc hzl
    · rw [Heap.set_ne _ _ hji] at hj
      exact ⟨hk.row hj hq, j, q, es', ⟨r', hj, hq, rfl⟩, .inr ⟨rfl, rfl, hj2, fun h => absurd h hji⟩⟩
  refine ⟨fun j r' q sz' es' hj hq => (key j q sz' es' r' hj hq).1, ?_, ?_⟩
  · rintro j q s1 e1 g1 j' q' s2 e2 g2 ⟨r1, hj1, hq1, rfl⟩ ⟨r2, hj2, hq2, rfl⟩ hc1 hc2 hb
    obtain ⟨_, j1, q1, f1, ha1, h1⟩ := key _ _ _ _ _ hj1 hq1
    obtain ⟨_, j2, q2, f2, ha2, h2⟩ := key _ _ _ _ _ hj2 hq2
    obtain ⟨hjj, hqq⟩ := hk.inj _ _ _ _ _ _ _ _ _ _ ha1 ha2 hc1 hc2 hb
    subst hjj; subst hqq
    rcases h1 with ⟨rfl, rfl, rfl⟩ | ⟨rfl, rfl, hn1, hp1⟩ <;> rcases h2 with ⟨rfl, he, rfl⟩ | ⟨he, rfl, hn2, hp2⟩
    · exact ⟨rfl, rfl⟩
    · exact absurd he.symm hn2
    · exact absurd he hn1
    · exact ⟨he, rfl⟩
  · rintro j q s1 e1 g1 ⟨r1, hj1, hq1, rfl⟩ hc1
    obtain ⟨_, j1, q1, f1, ha1, h1⟩ := key _ _ _ _ _ hj1 hq1
    exact hk.blk _ _ _ _ _ ha1 hc1
theorem HeapOK.detach {cx : Cx} {H : Heap} {w : World} (hk : HeapOK cx H w) {i i2 : Ix} {r : HRow} {p : Path} {sz : Nat} {es : List (List T)} {a b : Nat} {z : Nat} {zs : List (List T)}
    (hi : H i = some r) (hr : rowAt r.sz r.es p = some (sz, es)) (hf : H i2 = none) (hcell : cellAt es a b = some (.s true z zs)) :
    HeapOK cx ((H.set i (some { r with es := setRow r.es p (setCell es a b .d) })).set i2 (some ⟨z, zs, fun q => r.hd (p ++ (a, b) :: q)⟩)) w := by
  have hT : ∀ z zs, (T.d : T) ≠ .s true z zs := fun _ _ h => T.noConfusion h
  have hne : i2 ≠ i := fun e => by rw [e, hi] at hf; simp at hf
  have under : ∀ q sz' es', rowAt z zs q = some (sz', es') → rowAt r.sz r.es (p ++ (a, b) :: q) = some (sz', es') := by
    intro q sz' es' h
    rw [rowAt_append, hr]
    simp only [Option.bind_some, rowAt, hcell]
    exact h
  have key : ∀ j q sz' es' r', ((H.set i (some { r with es := setRow r.es p (setCell es a b .d) })).set i2 (some ⟨z, zs, fun q => r.hd (p ++ (a, b) :: q)⟩)) j = some r' → rowAt r'.sz r'.es q = some (sz', es') →
      RowOK cx w (fun i j => r'.hd (q ++ [(i, j)])) sz' es' (r'.hd q) ∧ ∃ j0 q0 e0, H.at j0 q0 sz' e0 (r'.hd q) ∧ ((j = i2 ∧ j0 = i ∧ q0 = p ++ (a, b) :: q) ∨ (j0 = j ∧ q0 = q ∧ j ≠ i2 ∧ (j = i → ¬ p ++ [(a, b)] <+: q))) := by
    intro j q sz' es' r' hj hq
    by_cases hj2 : j = i2
    · subst hj2
      rw [Heap.set_same] at hj
      obtain rfl := Option.some.inj hj
      have hrow := hk.row hi (under q sz' es' hq)
      refine ⟨?_, i, _, es', ⟨r, hi, under q sz' es' hq, rfl⟩, .inl ⟨rfl, rfl, rfl⟩⟩
      refine hrow.congr (fun _ => rfl) (fun x y _ _ _ => ?_)
      simp
    rw [Heap.set_ne _ _ hj2] at hj
    by_cases hji : j = i
    · subst hji
      rw [Heap.set_same] at hj
      obtain rfl := Option.some.inj hj
      rcases rowAt_setCellAt hr hT q sz' es' hq with ⟨rfl, rfl, rfl⟩ | ⟨hqp, e1, h0, hl, hnp, hes⟩
      · have hrow := hk.row hi hr
        refine ⟨⟨by rw [setCell_length]; exact hrow.1, fun hcap => ?_⟩, j, q, es, ⟨r, hi, hr, rfl⟩, .inr ⟨rfl, rfl, hj2, fun _ => not_prefix_self⟩⟩
        obtain ⟨c, E, h1, h2, h3⟩ := hrow.2 hcap
        refine ⟨c, E, h1, h2, fun i' e' he' => ?_⟩
        obtain ⟨e0, he0, hlen⟩ := getElem?_setCell he'
        refine ⟨hlen.trans (h3 i' e0 he0).1, fun j' u hu => ?_⟩
        rcases getElem?_setCell_cell he' hu with ⟨hij, rfl⟩ | ⟨hij, e1, he1, ht1⟩
        · obtain ⟨rfl, rfl⟩ := Prod.mk.inj hij
          unfold cellAt at hcell
          cases hes : es[i']? with
          | none => simp [hes] at hcell
          | some e2 =>
            rw [hes] at hcell
            obtain ⟨v, hv, _⟩ := (h3 i' e2 hes).2 j' _ hcell
            exact ⟨v, hv, trivial⟩
        · exact (h3 i' e1 he1).2 j' u ht1
      · have hrow0 := hk.row hi h0
        refine ⟨?_, j, q, e1, ⟨r, hi, h0, rfl⟩, .inr ⟨rfl, rfl, hj2, fun _ => hnp⟩⟩
        rcases hes with rfl | ⟨x, y', p', _, z, zs, zs', hc, rfl, hzl⟩
        · exact hrow0
        · exact hrow0.setLen hc hzl
    · rw [Heap.set_ne _ _ hji] at hj
      exact ⟨hk.row hj hq, j, q, es', ⟨r', hj, hq, rfl⟩, .inr ⟨rfl, rfl, hj2, fun h => absurd h hji⟩⟩
  refine ⟨fun j r' q sz' es' hj hq => (key j q sz' es' r' hj hq).1, ?_, ?_⟩
  · rintro j q s1 e1' g1 j' q' s2 e2 g2 ⟨r1, hj1, hq1, rfl⟩ ⟨r2, hj2, hq2, rfl⟩ hc1 hc2 hb
    obtain ⟨_, j1, q1, f1, ha1, h1⟩ := key _ _ _ _ _ hj1 hq1
    obtain ⟨_, j2, q2, f2, ha2, h2⟩ := key _ _ _ _ _ hj2 hq2
    obtain ⟨hjj, hqq⟩ := hk.inj _ _ _ _ _ _ _ _ _ _ ha1 ha2 hc1 hc2 hb
    rcases h1 with ⟨rfl, rfl, rfl⟩ | ⟨rfl, rfl, hn1, hp1⟩ <;> rcases h2 with ⟨rfl, he, rfl⟩ | ⟨he, rfl, hn2, hp2⟩
    · simp only [List.append_cancel_left_eq, List.cons.injEq, true_and] at hqq
      exact ⟨rfl, hqq⟩
    · exact absurd (by rw [← hqq, show p ++ (a, b) :: q = (p ++ [(a, b)]) ++ q by simp]; exact List.prefix_append _ _) (hp2 (by rw [← he, hjj]))
    · exact absurd (by rw [hqq, show p ++ (a, b) :: q' = (p ++ [(a, b)]) ++ q' by simp]; exact List.prefix_append _ _) (hp1 (by rw [hjj, he]))
    · exact ⟨hjj.trans he, hqq⟩
  · rintro j q s1 e1' g1 ⟨r1, hj1, hq1, rfl⟩ hc1
    obtain ⟨_, j1, q1, f1, ha1, h1⟩ := key _ _ _ _ _ hj1 hq1
    exact hk.blk _ _ _ _ _ ha1 hc1
end Go.Abs
namespace Go.Abs
open Go
theorem HeapOK.rename {cx : Cx} {H : Heap} {w : World} (hk : HeapOK cx H w) {i i2 : Ix} {r : HRow} (hi : H i = some r) (hf : H i2 = none) :
    HeapOK cx ((H.set i none).set i2 (some r)) w := by
  have hne : i2 ≠ i := fun e => by rw [e, hi] at hf; simp at hf
  have key : ∀ j r', ((H.set i none).set i2 (some r)) j = some r' → (j = i2 ∧ r' = r) ∨ (j ≠ i2 ∧ j ≠ i ∧ H j = some r') := by
    intro j r' hj
    by_cases h2 : j = i2
    · subst h2; rw [Heap.set_same] at hj; exact .inl ⟨rfl, (Option.some.inj hj).symm⟩
    · rw [Heap.set_ne _ _ h2] at hj
      by_cases h1 : j = i
      · subst h1; rw [Heap.set_same] at hj; simp at hj
      · rw [Heap.set_ne _ _ h1] at hj; exact .inr ⟨h2, h1, hj⟩
  refine ⟨?_, ?_, ?_⟩
  · intro j r' p sz es hj hr
    rcases key j r' hj with ⟨rfl, rfl⟩ | ⟨_, _, hj⟩
    · exact hk.rows _ _ p sz es hi hr
    · exact hk.rows _ _ p sz es hj hr
  · rintro j q s1 e1 g1 j' q' s2 e2 g2 ⟨r1, hj1, hq1, rfl⟩ ⟨r2, hj2, hq2, rfl⟩ hc1 hc2 hb
    rcases key j r1 hj1 with ⟨n1, m1⟩ | ⟨a1, b1, k1⟩ <;> rcases key j' r2 hj2 with ⟨n2, m2⟩ | ⟨a2, b2, k2⟩
    · subst m1; subst m2
      exact ⟨n1.trans n2.symm, (hk.inj _ _ _ _ _ _ _ _ _ _ ⟨_, hi, hq1, rfl⟩ ⟨_, hi, hq2, rfl⟩ hc1 hc2 hb).2⟩
    · subst m1
      exact absurd (hk.inj _ _ _ _ _ _ _ _ _ _ ⟨_, hi, hq1, rfl⟩ ⟨_, k2, hq2, rfl⟩ hc1 hc2 hb).1.symm b2
    · subst m2
      exact absurd (hk.inj _ _ _ _ _ _ _ _ _ _ ⟨_, k1, hq1, rfl⟩ ⟨_, hi, hq2, rfl⟩ hc1 hc2 hb).1 b1
    · exact hk.inj _ _ _ _ _ _ _ _ _ _ ⟨_, k1, hq1, rfl⟩ ⟨_, k2, hq2, rfl⟩ hc1 hc2 hb
  · rintro j q s1 e1 g1 ⟨r1, hj1, hq1, rfl⟩ hc
    rcases key j r1 hj1 with ⟨rfl, rfl⟩ | ⟨_, _, hj1⟩
    · exact hk.blk _ _ _ _ _ ⟨_, hi, hq1, rfl⟩ hc
    · exact hk.blk _ _ _ _ _ ⟨_, hj1, hq1, rfl⟩ hc
theorem HeapOK.less {cx : Cx} {H H' : Heap} {w : World} (hk : HeapOK cx H w) (h : ∀ i r, H' i = some r → H i = some r) : HeapOK cx H' w := by
  have key : ∀ {j q sz es g}, Heap.at H' j q sz es g → H.at j q sz es g := by
    rintro j q sz es g ⟨r, hj, hq, hh⟩; exact ⟨r, h _ _ hj, hq, hh⟩
  exact ⟨fun i r p sz es hi hr => hk.rows i r p sz es (h _ _ hi) hr, fun _ _ _ _ _ _ _ _ _ _ h1 h2 => hk.inj _ _ _ _ _ _ _ _ _ _ (key h1) (key h2), fun _ _ _ _ _ h1 => hk.blk _ _ _ _ _ (key h1)⟩
theorem HeapOK.remake {cx : Cx} {H H' : Heap} {w w' : World} (hk : HeapOK cx H w) {i : Ix} {r' : HRow} (hi' : H' i = some r')
    (hH : ∀ j r, j ≠ i → H' j = some r → H j = some r) (hsize : w.heap.size ≤ w'.heap.size) (hbase : cx.w0.heap.size ≤ w.heap.size)
    (hw : ∀ j q sz es h, j ≠ i → Heap.at H' j q sz es h → h.cap ≠ 0 → w'.heap[h.b]? = w.heap[h.b]?)
    (hrow : ∀ p sz es, rowAt r'.sz r'.es p = some (sz, es) → RowOK cx w' (fun i j => r'.hd (p ++ [(i, j)])) sz es (r'.hd p))
    (φ : Path → Ix × Path) (hφ : ∀ p q, φ p = φ q → p = q)
    (hpl : ∀ p sz es, rowAt r'.sz r'.es p = some (sz, es) → (r'.hd p).cap ≠ 0 → ((r'.hd p).b < w'.heap.size ∧ w.heap.size ≤ (r'.hd p).b ∧ p = []) ∨
      (∃ sz0 es0 h0, H.at (φ p).1 (φ p).2 sz0 es0 h0 ∧ h0.cap ≠ 0 ∧ h0.b = (r'.hd p).b ∧ ((φ p).1 = i ∨ H' (φ p).1 = none))) :
    HeapOK cx H' w' := by
  have old : ∀ {j q sz es g}, j ≠ i → Heap.at H' j q sz es g → H.at j q sz es g := by
    rintro j q sz es g hj ⟨r, h1, h2, h3⟩; exact ⟨r, hH _ _ hj h1, h2, h3⟩
  have apart : ∀ {j q sz es g p sz1 es1}, j ≠ i → Heap.at H' j q sz es g → g.cap ≠ 0 → rowAt r'.sz r'.es p = some (sz1, es1) → (r'.hd p).cap ≠ 0 → (r'.hd p).b ≠ g.b := by
    intro j q sz es g p sz1 es1 hj hat hc hp hc' hb
    rcases hpl p _ _ hp hc' with ⟨n1, n2, rfl⟩ | ⟨s3, e3, h3, a3, c3, b3, hor⟩
    · have := (hk.blk _ _ _ _ _ (old hj hat) hc).1; omega
    · have hE := (hk.inj _ _ _ _ _ _ _ _ _ _ a3 (old hj hat) c3 hc (b3.trans hb)).1
      rcases hor with ho | ho
      · exact hj (hE.symm.trans ho)
      · obtain ⟨r, hr, _⟩ := hat
        rw [← hE, ho] at hr
        simp at hr
  refine ⟨?_, ?_, ?_⟩
  · intro j r1 p sz es hj hr
    by_cases hji : j = i
    · subst hji; rw [hi'] at hj; obtain rfl := Option.some.inj hj; exact hrow p sz es hr
    · exact (hk.rows j r1 p sz es (hH _ _ hji hj) hr).congr (fun hc => hw _ _ _ _ _ hji ⟨r1, hj, hr, rfl⟩ hc) (fun _ _ _ _ _ => rfl)
  · intro j q s1 e1 g1 j' q' s2 e2 g2 ha1 ha2 hc1 hc2 hb
    by_cases h1 : j = i <;> by_cases h2 : j' = i
    · obtain ⟨r1, hj1, hq1, rfl⟩ := ha1
      obtain ⟨r2, hj2, hq2, rfl⟩ := ha2
      subst h1; subst h2
      rw [hi'] at hj1 hj2
      obtain rfl := Option.some.inj hj1
      obtain rfl := Option.some.inj hj2
      rcases hpl q _ _ hq1 hc1 with ⟨n1, n2, rfl⟩ | ⟨s3, e3, h3, a3, c3, b3, _⟩ <;> rcases hpl q' _ _ hq2 hc2 with ⟨n3, n4, rfl⟩ | ⟨s4, e4, h4, a4, c4, b4, _⟩
      · exact ⟨rfl, rfl⟩
      · have := (hk.blk _ _ _ _ _ a4 c4).1; omega
      · have := (hk.blk _ _ _ _ _ a3 c3).1; omega
      · have hE := hk.inj _ _ _ _ _ _ _ _ _ _ a3 a4 c3 c4 (by omega)
        exact ⟨rfl, hφ _ _ (Prod.ext hE.1 hE.2)⟩
    · obtain ⟨r1, hj1, hq1, rfl⟩ := ha1
      subst h1
      rw [hi'] at hj1
      obtain rfl := Option.some.inj hj1
      exact absurd hb (apart h2 ha2 hc2 hq1 hc1)
    · obtain ⟨r2, hj2, hq2, rfl⟩ := ha2
      subst h2
      rw [hi'] at hj2
      obtain rfl := Option.some.inj hj2
      exact absurd hb.symm (apart h1 ha1 hc1 hq2 hc2)
    · exact hk.inj _ _ _ _ _ _ _ _ _ _ (old h1 ha1) (old h2 ha2) hc1 hc2 hb
  · intro j q s1 e1 g1 hat hc
    by_cases hji : j = i
    · obtain ⟨r1, hj1, hq1, rfl⟩ := hat
      subst hji
      rw [hi'] at hj1
      obtain rfl := Option.some.inj hj1
      rcases hpl q _ _ hq1 hc with ⟨n1, n2, rfl⟩ | ⟨s3, e3, h3, a3, c3, b3, _⟩
      · exact ⟨n1, .inl (by omega)⟩
      · have := hk.blk _ _ _ _ _ a3 c3
        rw [b3] at this
        exact ⟨by omega, this.2⟩
    · have := hk.blk _ _ _ _ _ (old hji hat) hc
      exact ⟨by omega, this.2⟩
theorem alloc_heap_lt {w : World} {o : Obj} {b : Nat} (h : b < w.heap.size) : (w.alloc o).heap[b]? = w.heap[b]? := by
  show (w.heap.push o)[b]? = _
  rw [Array.getElem?_push, if_neg (by omega)]
theorem alloc_heap_new (w : World) (o : Obj) : (w.alloc o).heap[w.heap.size]? = some o := by
  show (w.heap.push o)[_]? = _
  simp
def hdNew (h : Hdr) : Path → Hdr
  | [] => h
  | _ :: _ => ⟨0, 0, 0⟩
def bareT : T → Prop
  | .s true _ es => es = []
  | _ => True
theorem bare_rowAt {es : List (List T)} (hb : ∀ (i : Nat) (e : List T), es[i]? = some e → ∀ (j : Nat) (t : T), e[j]? = some t → bareT t) {sz : Nat} {x : Nat × Nat} {p : Path} {sz' : Nat} {es' : List (List T)}
    (h : rowAt sz es (x :: p) = some (sz', es')) : p = [] ∧ es' = [] := by
  obtain ⟨i, j⟩ := x
  simp only [rowAt] at h
  cases hc : cellAt es i j with
  | none => simp [hc] at h
  | some u =>
    rw [hc] at h
    cases u with
    | v _ => simp at h
    | d => simp at h
    | s o z zs =>
      cases o with
      | false => simp at h
      | true =>
        unfold cellAt at hc
        cases hi : es[i]? with
        | none => simp [hi] at hc
        | some e =>
          rw [hi] at hc
          have := hb i e hi j _ hc
          simp only [bareT] at this
          subst this
          cases p with
          | nil => simp only [rowAt, Option.some.injEq, Prod.mk.injEq] at h; exact ⟨rfl, h.2.symm⟩
          | cons y p => obtain ⟨a, b⟩ := y; simp [rowAt, cellAt] at h
theorem HeapOK.fresh {cx : Cx} {H : Heap} {w : World} (hk : HeapOK cx H w) {i : Ix} {c : Array Value} {E : TypeId} {sz cap : Nat} {es : List (List T)} (hbase : cx.w0.heap.size ≤ w.heap.size)
    (hl : es.length ≤ cap) (hcap : cap * sz ≤ c.size)
    (hes : ∀ (i : Nat) (e : List T), es[i]? = some e → e.length = sz ∧ ∀ (j : Nat) (t : T), e[j]? = some t → bareT t ∧ ∃ y, c[i * sz + j]? = some y ∧ TOK cx ⟨0, 0, 0⟩ t y) :
    HeapOK cx (H.set i (some ⟨sz, es, hdNew ⟨w.heap.size, 0, cap⟩⟩)) (w.alloc (.cells c E (0, 0))) := by
  have hbare : ∀ (i : Nat) (e : List T), es[i]? = some e → ∀ (j : Nat) (t : T), e[j]? = some t → bareT t := fun i e he j t ht => ((hes i e he).2 j t ht).1
  refine hk.remake (i := i) (Heap.set_same _ _ _) (fun j r hj h => by rw [Heap.set_ne _ _ hj] at h; exact h) (by simp) hbase ?_ ?_ (fun p => (i, p)) (fun p q h => by simpa using h) ?_
  · rintro j q sz' es' h hj ⟨r, hr, hq, rfl⟩ hc
    rw [Heap.set_ne _ _ hj] at hr
    exact alloc_heap_lt (hk.blk _ _ _ _ _ ⟨r, hr, hq, rfl⟩ hc).1
  · intro p sz' es' hp
    cases p with
    | nil =>
      simp only [rowAt, Option.some.injEq, Prod.mk.injEq] at hp
      obtain ⟨rfl, rfl⟩ := hp
      refine ⟨hl, fun _ => ⟨c, E, alloc_heap_new _ _, by simpa [hdNew] using hcap, fun i e he => ⟨(hes i e he).1, fun j t ht => ?_⟩⟩⟩
      obtain ⟨_, y, hy, hok⟩ := (hes i e he).2 j t ht
      exact ⟨y, by simpa [hdNew] using hy, hok⟩
    | cons x p =>
      obtain ⟨rfl, rfl⟩ := bare_rowAt hbare hp
      exact ⟨by simp [hdNew], fun h => by simp [hdNew] at h⟩
  · intro p sz' es' hp hc
    cases p with
    | nil => exact .inl ⟨by simp [hdNew], by simp [hdNew], rfl⟩
    | cons x p => simp [hdNew] at hc
end Go.Abs
namespace Go.Abs
open Go
def appHd (h0 : Hdr) (off len : Nat) (hd g : Path → Hdr) : Path → Hdr
  | [] => h0
  | (x, y) :: q => if x < len then hd ((x + off, y) :: q) else g ((x - len, y) :: q)
theorem cellAt_app {es news : List (List T)} {off len x y : Nat} (hl : off + len ≤ es.length) :
    cellAt ((es.drop off).take len ++ news) x y = if x < len then cellAt es (x + off) y else cellAt news (x - len) y := by
  have hlen : ((es.drop off).take len).length = len := by simp; omega
  unfold cellAt
  by_cases hx : x < len
  · rw [if_pos hx, List.getElem?_append_left (by omega), List.getElem?_take_of_lt hx, List.getElem?_drop, Nat.add_comm off x]
  · rw [if_neg hx, List.getElem?_append_right (by omega), hlen]
theorem rowAt_app {es news : List (List T)} {off len n : Nat} {x y : Nat} {q : Path} {sz' : Nat} {es' : List (List T)} (hl : off + len ≤ es.length)
    (h : rowAt n ((es.drop off).take len ++ news) ((x, y) :: q) = some (sz', es')) :
    (x < len ∧ rowAt n es ((x + off, y) :: q) = some (sz', es')) ∨ (¬ x < len ∧ rowAt n news ((x - len, y) :: q) = some (sz', es')) := by
  simp only [rowAt, cellAt_app hl] at h ⊢
  by_cases hx : x < len
  · rw [if_pos hx] at h; exact .inl ⟨hx, h⟩
  · rw [if_neg hx] at h; exact .inr ⟨hx, h⟩
theorem noOwn_rowAt {es : List (List T)} (hb : ∀ (i : Nat) (e : List T), es[i]? = some e → ∀ (j : Nat) (t : T), e[j]? = some t → ∀ z zs, t ≠ .s true z zs) {sz : Nat} {x : Nat × Nat} {p : Path} : rowAt sz es (x :: p) = none := by
  obtain ⟨i, j⟩ := x
  simp only [rowAt]
  cases hc : cellAt es i j with
  | none => rfl
  | some u =>
    unfold cellAt at hc
    cases hi : es[i]? with
    | none => simp [hi] at hc
    | some e =>
      rw [hi] at hc
      have := hb i e hi j u hc
      split
      · rename_i z zs h; exact absurd (Option.some.inj h) (this _ _)
      · rfl
theorem HeapOK.append {cx : Cx} {H H' : Heap} {w w' : World} (hk : HeapOK cx H w) {i i2 d : Ix} {r : HRow} {n off len : Nat} {news : List (List T)} {g : Path → Hdr} {h0 : Hdr}
    (hbase : cx.w0.heap.size ≤ w.heap.size) (hi : H i = some r) (hn : r.sz = n) (hl : off + len ≤ r.es.length)
    (hsrc : (∀ (x : Nat) (e : List T), news[x]? = some e → ∀ (y : Nat) (t : T), e[y]? = some t → ∀ z zs, t ≠ .s true z zs) ∨ (∃ f, H i2 = some f ∧ f.sz = n ∧ news = f.es ∧ g = f.hd ∧ i2 ≠ i ∧ (d = i2 ∨ H' i2 = none)))
    (hd' : H' d = some ⟨n, (r.es.drop off).take len ++ news, appHd h0 off len r.hd g⟩)
    (hH : ∀ j s, j ≠ d → H' j = some s → H j = some s ∧ j ≠ i) (hdi : d = i ∨ H' i = none)
    (hsize : w.heap.size ≤ w'.heap.size) (hcap : len + news.length ≤ h0.cap)
    (hcell : h0.cap ≠ 0 → ∃ c' E, w'.heap[h0.b]? = some (.cells c' E (0, 0)) ∧ h0.o + h0.cap * n ≤ c'.size ∧
      (∀ x y c E, x < len → y < n → w.heap[(r.hd []).b]? = some (.cells c E (0, 0)) → c'[h0.o + (x * n + y)]? = c[(r.hd []).o + ((x + off) * n + y)]?) ∧
      (∀ (x : Nat) (e : List T), news[x]? = some e → e.length = n ∧ ∀ (y : Nat) (t : T), e[y]? = some t → ∃ v, c'[h0.o + ((len + x) * n + y)]? = some v ∧ TOK cx (g [(x, y)]) t v))
    (hoth : ∀ b, b < w.heap.size → b ≠ h0.b → w'.heap[b]? = w.heap[b]?)
    (hnew : h0.cap ≠ 0 → (h0.b = (r.hd []).b ∧ (r.hd []).cap ≠ 0) ∨ (w.heap.size ≤ h0.b ∧ h0.b < w'.heap.size))
    (hzero : h0.cap = 0 → w.heap.size ≤ h0.b ∨ w' = w) :
    HeapOK cx H' w' := by
  have hroot : rowAt r.sz r.es [] = some (n, r.es) := by simp [rowAt, hn]
  -- a block that another place owns is not the new row's
  have hne : ∀ {j q sz es h}, H.at j q sz es h → h.cap ≠ 0 → (j, q) ≠ (i, []) → h0.cap ≠ 0 → h.b ≠ h0.b := by
    intro j q sz es h hat hc hjq hc0 hE
    rcases hnew hc0 with ⟨h1, h2⟩ | ⟨h1, _⟩
    · have := hk.inj _ _ _ _ _ _ _ _ _ _ hat ⟨r, hi, hroot, rfl⟩ hc h2 (hE.trans h1)
      exact hjq (Prod.ext this.1 this.2)
    · have := (hk.blk _ _ _ _ _ hat hc).1; omega
  have hkeep : ∀ {j q sz es h}, H.at j q sz es h → h.cap ≠ 0 → (j, q) ≠ (i, []) → w'.heap[h.b]? = w.heap[h.b]? := by
    intro j q sz es h hat hc hjq
    have hlt := (hk.blk _ _ _ _ _ hat hc).1
    by_cases hc0 : h0.cap = 0
    · rcases hzero hc0 with hz | hz
      · exact hoth _ hlt (by omega)
      · rw [hz]
    · exact hoth _ hlt (hne hat hc hjq hc0)
  refine hk.remake (i := d) hd' (fun j s hj h => (hH j s hj h).1) hsize hbase ?_ ?_ (fun p => match p with
    | [] => (i, [])
    | (x, y) :: q => if x < len then (i, (x + off, y) :: q) else (if i2 = i then (i, (x + off + r.es.length + 1, y) :: q) else (i2, (x - len, y) :: q))) ?_ ?_
  · rintro j q sz es h hj ⟨s, hs, hq, rfl⟩ hc
    have := hH j s hj hs
    exact hkeep ⟨s, this.1, hq, rfl⟩ hc (fun e => this.2 (Prod.mk.inj e).1)
  · intro p sz es hp
    cases p with
    | nil =>
      simp only [rowAt, Option.some.injEq, Prod.mk.injEq] at hp
      obtain ⟨rfl, rfl⟩ := hp
      have hlen : ((r.es.drop off).take len).length = len := by simp; omega
      refine ⟨by simp only [appHd, List.length_append, hlen]; exact hcap, fun hc => ?_⟩
      obtain ⟨c', E, h1, h2, h3, h4⟩ := hcell hc
      refine ⟨c', E, h1, h2, fun x e he => ?_⟩
      by_cases hx : x < len
      · rw [List.getElem?_append_left (by omega), List.getElem?_take_of_lt hx, List.getElem?_drop] at he
        have hrow := hk.row hi hroot
        have hc1 := cap_ne hrow he
        obtain ⟨c, E1, k1, k2, k3⟩ := hrow.2 hc1
        refine ⟨(k3 _ e he).1, fun y t ht => ?_⟩
        obtain ⟨v, hv, hok⟩ := (k3 _ e he).2 y t ht
        have hy : y < n := by rw [← (k3 _ e he).1]; exact (List.getElem?_eq_some_iff.1 ht).1
        refine ⟨v, ?_, ?_⟩
        · have h5 := h3 x y c E1 hx hy k1
          rw [Nat.add_comm x off] at h5
          exact h5.trans hv
        · simpa [appHd, hx, Nat.add_comm] using hok
      · rw [List.getElem?_append_right (by omega), hlen] at he
        obtain ⟨k1, k2⟩ := h4 _ e he
        refine ⟨k1, fun y t ht => ?_⟩
        obtain ⟨v, hv, hok⟩ := k2 y t ht
        refine ⟨v, ?_, by simpa [appHd, hx] using hok⟩
        rw [show len + (x - len) = x by omega] at hv
        exact hv
    | cons xy q =>
      obtain ⟨x, y⟩ := xy
      rcases rowAt_app hl hp with ⟨hx, hq⟩ | ⟨hx, hq⟩
      · have hrow := hk.row hi (hn ▸ hq)
        simp only [appHd, hx, if_true, List.cons_append]
        refine hrow.congr (fun hc => ?_) (fun _ _ _ _ _ => rfl)
        exact hkeep ⟨r, hi, hn ▸ hq, rfl⟩ hc (by simp)
      · rcases hsrc with hs | ⟨f, hf, hfn, rfl, rfl, hne2, hd2⟩
        · rw [noOwn_rowAt hs] at hq; simp at hq
        · have hrow := hk.row hf (hfn ▸ hq)
          simp only [appHd, hx, if_false, List.cons_append]
          refine hrow.congr (fun hc => ?_) (fun _ _ _ _ _ => rfl)
          exact hkeep ⟨f, hf, hfn ▸ hq, rfl⟩ hc (by simp)
  · intro p q h
    cases p with
    | nil =>
      cases q with
      | nil => rfl
      | cons b q => obtain ⟨x, y⟩ := b; simp only [] at h; split at h <;> (try split at h) <;> simp at h
    | cons a p =>
      obtain ⟨x, y⟩ := a
      cases q with
      | nil => simp only [] at h; split at h <;> (try split at h) <;> simp at h
      | cons b q =>
        obtain ⟨x', y'⟩ := b
        simp only [] at h
        split at h <;> split at h <;> (try split at h) <;> simp only [Prod.mk.injEq, List.cons.injEq] at h
        all_goals first
          | (obtain ⟨_, ⟨h1, h2⟩, h3⟩ := h; subst h2; subst h3; have : x = x' := by omega
             subst this; rfl)
          | (exfalso; omega)
          | (obtain ⟨h0, _⟩ := h; exact absurd h0.symm (by assumption))
          | (obtain ⟨h0, _⟩ := h; exact absurd h0 (by assumption))
  · intro p sz es hp hc
    cases p with
    | nil =>
      rcases hnew hc with ⟨h1, h2⟩ | ⟨h1, h2⟩
      · exact .inr ⟨n, r.es, r.hd [], ⟨r, hi, hroot, rfl⟩, h2, h1.symm, hdi.imp (·.symm) id⟩
      · exact .inl ⟨h2, h1, rfl⟩
    | cons xy q =>
      obtain ⟨x, y⟩ := xy
      rcases rowAt_app hl hp with ⟨hx, hq⟩ | ⟨hx, hq⟩
      · simp only [appHd, hx, if_true] at hc ⊢
        exact .inr ⟨sz, es, _, ⟨r, hi, hn ▸ hq, rfl⟩, hc, rfl, hdi.imp (·.symm) id⟩
      · rcases hsrc with hs | ⟨f, hf, hfn, rfl, rfl, hne2, hd2⟩
        · rw [noOwn_rowAt hs] at hq; simp at hq
        · simp only [appHd, hx, if_false, hne2] at hc ⊢
          exact .inr ⟨sz, es, _, ⟨f, hf, hfn ▸ hq, rfl⟩, hc, rfl, hd2.imp (·.symm) id⟩
end Go.Abs
namespace Go.Abs
open Go
variable [Amb]
def HeapOf (st : St) (Hd : K → Path → Hdr) : Heap := fun
  | .inl k => match st (.k k) with
    | .e e => some ⟨e.sz, e.es, Hd k⟩
    | _ => none
  | .inr _ => none
def valid (st : St) (Hd : K → Path → Hdr) (k : K) (ver : Nat) (p : Path) (sz : Nat) (es : List (List T)) (h : Hdr) : Prop :=
  ∃ e, st (.k k) = .e e ∧ (p = [] ∨ e.ver = ver) ∧ rowAt e.sz e.es p = some (sz, es) ∧ Hd k p = h
def known (st : St) (k : K) (ver : Nat) : Prop := st (.k k) ≠ .none ∧ ∀ e, st (.k k) = .e e → ver ≤ e.ver
inductive COK (cx : Cx) (st : St) (Hd : K → Path → Hdr) : C → Value → Prop
  | v (x : Value) : COK cx st Hd (.v x) x
  | b (y : Value) (sz : Nat) (es : List (List T)) (h : Bor cx.w0 cx.X y sz es) : COK cx st Hd (.b sz es) y
  | n : COK cx st Hd .n (.slice none 0 0)
  | u (y : Value) : COK cx st Hd .u y
  | r (k : K) (ver : Nat) (p : Path) (off len : Nat) (a : Option Addr) (cap : Nat) (hk : known st k ver) (hl : len ≤ cap)
      (hv : ∀ sz es h, valid st Hd k ver p sz es h → off + len ≤ es.length ∧ (cap ≠ 0 → a = some ⟨h.b, h.o + off * sz, none⟩ ∧ off + cap ≤ h.cap)) :
      COK cx st Hd (.r k ver p off len) (.slice a len cap)
inductive VOK (cx : Cx) (st : St) (Hd : K → Path → Hdr) : V → Value → Prop
  | c (c : C) (y : Value) (h : COK cx st Hd c y) : VOK cx st Hd (.c c) y
  | a (cs : List C) (ys : Array Value) (hl : ys.size = cs.length) (h : ∀ (i : Nat) (c : C) (y : Value), cs[i]? = some c → ys[i]? = some y → COK cx st Hd c y) : VOK cx st Hd (.a cs) (.agg ys)
  | p (k : K) (ver : Nat) (p : Path) (i off : Nat) (a : Addr) (hk : known st k ver)
      (hv : ∀ sz es h, valid st Hd k ver p sz es h → i < es.length → a = ⟨h.b, h.o + (i * sz + off), none⟩) : VOK cx st Hd (.p k ver p i off) (.pointer (some a))
  | q (sz : Nat) (es : List (List T)) (i off b o cap : Nat) (h : Bor cx.w0 cx.X (.slice (some ⟨b, o, none⟩) es.length cap) sz es) (hi : i < es.length) :
      VOK cx st Hd (.q sz es i off) (.pointer (some ⟨b, o + (i * sz + off), none⟩))
  | t (vs : List V) (ys : Array Value) (hl : ys.size = vs.length) (h : ∀ (i : Nat) (v : V) (y : Value), vs[i]? = some v → ys[i]? = some y → VOK cx st Hd v y) : VOK cx st Hd (.t vs) (.tuple ys)
  | f (fn : Nat) (caps : List V) (ys : Array Value) (hl : ys.size = caps.length) (h : ∀ (i : Nat) (v : V) (y : Value), caps[i]? = some v → ys[i]? = some y → VOK cx st Hd v y) : VOK cx st Hd (.f fn caps) (.func (.func fn) #[] ys)
  | u : VOK cx st Hd .u undef
structure Rel (cx : Cx) (n : Nat) (st : St) (Hd : K → Path → Hdr) (a : Act) (w : World) : Prop where
  defers : a.defers = []
  size : a.tmps.size = n
  slots : ∀ t v, st (.s t) = .v v → t < n ∧ VOK cx st Hd v (a.tmps.getD t undef)
  heap : HeapOK cx (HeapOf st Hd) w
  keep : Keep cx w
  hdr : ∀ k h, cx.H0 k = some h → st (.k k) ≠ .none ∧ ∀ e, st (.k k) = .e e → Hd k [] = h
  amb : Amb.ok cx.w0 cx.X
theorem COK.mono {cx : Cx} {st st' : St} {Hd Hd' : K → Path → Hdr} {c : C} {y : Value} (h : COK cx st Hd c y)
    (hk : ∀ k ver, known st k ver → known st' k ver)
    (hv : ∀ k ver p sz es h, known st k ver → valid st' Hd' k ver p sz es h → ∃ es0, valid st Hd k ver p sz es0 h ∧ es0.length = es.length) : COK cx st' Hd' c y := by
  cases h with
  | v => exact .v _
  | b y sz es h => exact .b _ _ _ h
  | n => exact .n
  | u y => exact .u _
  | r k ver p off len a cap hk1 hl hv1 =>
    refine .r _ _ _ _ _ _ _ (hk _ _ hk1) hl (fun sz es h hh => ?_)
    obtain ⟨es0, h0, hlen⟩ := hv _ _ _ _ _ _ hk1 hh
    rw [← hlen]
    exact hv1 _ _ _ h0
theorem VOK.mono {cx : Cx} {st st' : St} {Hd Hd' : K → Path → Hdr} {v : V} {y : Value} (h : VOK cx st Hd v y)
    (hk : ∀ k ver, known st k ver → known st' k ver)
    (hv : ∀ k ver p sz es h, known st k ver → valid st' Hd' k ver p sz es h → ∃ es0, valid st Hd k ver p sz es0 h ∧ es0.length = es.length) : VOK cx st' Hd' v y := by
  induction h with
  | c c y h => exact .c _ _ (h.mono hk hv)
  | a cs ys hl h => exact .a _ _ hl (fun i c y h1 h2 => (h i c y h1 h2).mono hk hv)
  | p k ver p i off a hk1 hv1 =>
    refine .p _ _ _ _ _ _ (hk _ _ hk1) (fun sz es h hh hi => ?_)
    obtain ⟨es0, h0, hlen⟩ := hv _ _ _ _ _ _ hk1 hh
    exact hv1 _ _ _ h0 (by omega)
  | q sz es i off b o cap h hi => exact .q _ _ _ _ _ _ _ h hi
  | t vs ys hl h ih => exact .t _ _ hl ih
  | f fn caps ys hl h ih => exact .f _ _ _ hl ih
  | u => exact .u
def putW (d : Option Tmp) (v : V) : Ws := match d with
  | some t => [(.s t, .v v)]
  | none => []
theorem Rel.put {cx : Cx} {n : Nat} {st : St} {Hd : K → Path → Hdr} {a : Act} {w : World} (h : Rel cx n st Hd a w) {d : Option Tmp} {v : V} {y : Value} (hd : ∀ t, d = some t → t < n) (hv : VOK cx st Hd v y) :
    Rel cx n (app (putW d v) st) Hd (a.put d y) w := by
  cases d with
  | none => exact h
  | some t =>
    have ht := hd t rfl
    simp only [putW]
    have hkeys : ∀ k, app [(.s t, .v v)] st (.k k) = st (.k k) := fun k => by simp [app, ovl]
    have hval : ∀ {k ver p sz es g}, valid (app [(.s t, .v v)] st) Hd k ver p sz es g ↔ valid st Hd k ver p sz es g := by
      intro k ver p sz es g; simp only [valid, hkeys]
    have hkn : ∀ {k ver}, known (app [(.s t, .v v)] st) k ver ↔ known st k ver := by
      intro k ver; simp only [known, hkeys]
    refine ⟨h.defers, by simp [Act.put, h.size], ?_, ?_, h.keep, fun k h0 hk => by rw [hkeys]; exact h.hdr k h0 hk, h.amb⟩
    · intro t' v' hst
      by_cases htt : t' = t
      · subst htt
        simp only [app, ovl, if_true] at hst
        obtain rfl := X.v.inj hst
        refine ⟨ht, ?_⟩
        have : (a.put (some t') y).tmps.getD t' undef = y := by simp [Act.put, h.size, ht]
        rw [this]
        exact hv.mono (fun k ver hk => hkn.2 hk) (fun k ver p sz es g _ hh => ⟨es, hval.1 hh, rfl⟩)
      · have hst' : st (.s t') = .v v' := by simpa [app, ovl, htt] using hst
        obtain ⟨h1, h2⟩ := h.slots t' v' hst'
        refine ⟨h1, ?_⟩
        have : (a.put (some t) y).tmps.getD t' undef = a.tmps.getD t' undef := by
          simp only [Act.put, Array.getD_eq_getD_getElem?]
          rw [Array.getElem?_setIfInBounds_ne (Ne.symm htt)]
        rw [this]
        exact h2.mono (fun k ver hk => hkn.2 hk) (fun k ver p sz es g _ hh => ⟨es, hval.1 hh, rfl⟩)
    · have : HeapOf (app [(.s t, .v v)] st) Hd = HeapOf st Hd := by
        funext i
        cases i with
        | inl k => simp only [HeapOf, hkeys]
        | inr j => rfl
      rw [this]
      exact h.heap
def entryC (n j : Nat) : T → C
  | .v x => .v x
  | .s false sz es => .b sz es
  | .s true _ es => .r (n, j) 0 [] 0 es.length
  | .d => .u
def entryCs (n : Nat) : Nat → List T → List C
  | _, [] => []
  | j, t :: ts => entryC n j t :: entryCs n (j + 1) ts
def entryCap : A → V
  | .q sz es i off => .q sz es i off
  | _ => .c .u
def entryV (n : Nat) : A → V
  | .c t => .c (entryC n 0 t)
  | .a ts => .a (entryCs n 0 ts)
  | .q sz es i off => .q sz es i off
  | .f fn caps => .f fn (caps.map entryCap)
  | .p _ _ => .p (n, 0) 0 [] 0 0
def cellOf (as : List A) (k : K) : Option (Nat × List (List T)) := match as[k.1]? with
  | some a => match a.ts[k.2]? with
    | some (.s true sz es) => some (sz, es)
    | _ => none
  | none => none
def entrySt (as : List A) : St := fun
  | .s t => match as[t]? with
    | some a => .v (entryV t a)
    | none => .none
  | .k k => match cellOf as k with
    | some (sz, es) => .e ⟨0, sz, es⟩
    | none => .none
def exitHeap (fin res : List A) (Hd : Ix → Path → Hdr) : Heap := fun
  | .inl k => (cellOf fin k).map fun x => ⟨x.1, x.2, Hd (.inl k)⟩
  | .inr k => (cellOf res k).map fun x => ⟨x.1, x.2, Hd (.inr k)⟩
def finOK (as : List A) : Bool := as.all fun a => a.ts.all fun | .s true _ es => ownEs es | _ => true
def resOK (as : List A) : Bool := as.all fun a => ownE a.ts
def AOK (cx : Cx) (Hd : Ix → Path → Hdr) (n : Nat) (a : A) (y : Value) : Prop := match a with
  | .c t => TOK cx (Hd (.inr (n, 0)) []) t y
  | .a ts => ∃ ys : Array Value, y = .agg ys ∧ ys.size = ts.length ∧ ∀ (j : Nat) (t : T) (x : Value), ts[j]? = some t → ys[j]? = some x → TOK cx (Hd (.inr (n, j)) []) t x
  | .p sz es => ∃ ad, y = .pointer (some ad) ∧ es.length = 1 ∧ (Hd (.inr (n, 0)) []).cap ≠ 0 ∧ TOK cx (Hd (.inr (n, 0)) []) (.s true sz es) (.slice (some ad) es.length (Hd (.inr (n, 0)) []).cap)
  | _ => False
def RetOK (cx : Cx) (Hd : Ix → Path → Hdr) (res : List A) (v : Value) : Prop := match res with
  | [a] => AOK cx Hd 0 a v
  | as => ∃ ys : Array Value, v = .tuple ys ∧ ys.size = as.length ∧ ∀ (n : Nat) (a : A) (y : Value), as[n]? = some a → ys[n]? = some y → AOK cx Hd n a y
def Enters (P : Program) (f : Nat) : Prop := ∃ fn, P.funcs[f]? = some fn ∧ fn.name ≠ "runtime.NumGoroutine" ∧ fn.body.isSome = true
def Fn (P : Program) (f : Nat) (as fin res : List A) : Prop :=
  Enters P f ∧ finOK fin = true ∧ resOK res = true ∧ ∀ (w : World) (X : Nat → Prop) (vals : Array Value) (Hd : K → Path → Hdr),
    vals.size = as.length → (∀ t v, entrySt as (.s t) = .v v → VOK ⟨w, X, fun _ => none⟩ (entrySt as) Hd v (vals.getD t undef)) → HeapOK ⟨w, X, fun _ => none⟩ (HeapOf (entrySt as) Hd) w → Amb.ok w X →
    Calls P f vals w fun e w' => ∃ v Hd', e = .returned v ∧ HeapOK ⟨w, X, fun _ => none⟩ (exitHeap fin res Hd') w' ∧ Keep ⟨w, X, fun _ => none⟩ w' ∧ RetOK ⟨w, X, fun _ => none⟩ Hd' res v ∧
      ∀ k, (cellOf as k).isSome → (cellOf fin k).isSome → Hd' (.inl k) [] = Hd k []
def M.wp (P : Program) : M → St → (Ws → Prop) → Prop
  | .ret ws, _, Kc => Kc ws
  | .get l f, st, Kc => (f (st l)).wp P st Kc
  | .req p m, st, Kc => p ∧ m.wp P st Kc
  | .any f, st, Kc => ∀ b, (f b).wp P st Kc
  | .call f as k, st, Kc => ∃ fin res, Fn P f as fin res ∧ (k fin res).wp P st Kc
  | .bad, _, _ => False
theorem constV_ok {cx : Cx} {st : St} {Hd : K → Path → Hdr} (v : Value) : VOK cx st Hd (constV v) v := by
  unfold constV
  split
  · exact .c _ _ .n
  · exact .c _ _ (.v _)
theorem getO_ok {P : Program} {cx : Cx} {n : Nat} {st : St} {Hd : K → Path → Hdr} {a : Act} {w : World} (h : Rel cx n st Hd a w) {o : Operand} {k : V → M} {Kc : Ws → Prop} (hm : (getO o k).wp P st Kc) :
    ∃ v, VOK cx st Hd v (a.eval o) ∧ (k v).wp P st Kc := by
  cases o with
  | tmp t =>
    simp only [getO, M.wp] at hm
    cases hs : st (.s t) with
    | v v => rw [hs] at hm; exact ⟨v, (h.slots t v hs).2, hm⟩
    | e e => rw [hs] at hm; exact hm.elim
    | gone => rw [hs] at hm; exact hm.elim
    | none => rw [hs] at hm; exact hm.elim
  | const v => exact ⟨_, constV_ok v, hm⟩
  | func f => exact ⟨_, .f f [] #[] rfl (fun i v y h => by simp at h), hm⟩
  | global g => exact hm.elim
end Go.Abs
namespace Go.Abs
open Go
variable [Amb]
theorem addr_add (b o n : Nat) : (⟨b, o, none⟩ : Addr).add n = ⟨b, o + n, none⟩ := by
  unfold Addr.add; split <;> simp_all
theorem HeapOf_some {st : St} {Hd : K → Path → Hdr} {k : K} {e : Ent} (h : st (.k k) = .e e) : HeapOf st Hd (.inl k) = some ⟨e.sz, e.es, Hd k⟩ := by
  simp [HeapOf, h]
theorem row_of {cx : Cx} {st : St} {Hd : K → Path → Hdr} {w : World} (hk : HeapOK cx (HeapOf st Hd) w) {k : K} {e : Ent} {p : Path} {sz : Nat} {es : List (List T)} (he : st (.k k) = .e e) (hr : rowAt e.sz e.es p = some (sz, es)) :
    RowOK cx w (fun i j => Hd k (p ++ [(i, j)])) sz es (Hd k p) := hk.rows _ _ p sz es (HeapOf_some he) hr
theorem row_cell {cx : Cx} {w : World} {ch : Nat → Nat → Hdr} {sz : Nat} {es : List (List T)} {h : Hdr} (hrow : RowOK cx w ch sz es h) {i j : Nat} {el : List T} {t : T} (hi : es[i]? = some el) (hj : el[j]? = some t) :
    el.length = sz ∧ ∃ y, w.cell? ⟨h.b, h.o + (i * sz + j), none⟩ = some y ∧ TOK cx (ch i j) t y := by
  obtain ⟨c, E, h1, h2, h3⟩ := hrow.2 (cap_ne hrow hi)
  obtain ⟨h4, h5⟩ := h3 i el hi
  obtain ⟨y, hy, hok⟩ := h5 j t hj
  exact ⟨h4, y, by simpa [World.cell?, h1] using hy, hok⟩
def toC1 (k : K) (ver : Nat) (p : Path) (i j : Nat) : T → C
  | .v x => .v x
  | .s false sz es => .b sz es
  | .s true _ es => .r k ver (p ++ [(i, j)]) 0 es.length
  | .d => .u
theorem toC_get (k : K) (ver : Nat) (p : Path) (i : Nat) : ∀ (ts : List T) (j m : Nat), (toC k ver p i j ts)[m]? = (ts[m]?).map (toC1 k ver p i (j + m))
  | [], j, m => by simp [toC]
  | t :: ts, j, 0 => by cases t with
    | v x => simp [toC, toC1]
    | d => simp [toC, toC1]
    | s o sz es => cases o <;> simp [toC, toC1]
  | t :: ts, j, m + 1 => by
    have := toC_get k ver p i ts (j + 1) m
    have e : j + 1 + m = j + (m + 1) := by omega
    cases t with
    | v x => simp [toC, this, e]
    | d => simp [toC, this, e]
    | s o sz es => cases o <;> simp [toC, this, e]
theorem toC_length (k : K) (ver : Nat) (p : Path) (i : Nat) : ∀ (ts : List T) (j : Nat), (toC k ver p i j ts).length = ts.length
  | [], j => rfl
  | t :: ts, j => by
    have := toC_length k ver p i ts (j + 1)
    cases t with
    | v x => simp [toC, this]
    | d => simp [toC, this]
    | s o sz es => cases o <;> simp [toC, this]
theorem toC1_ok {cx : Cx} {st : St} {Hd : K → Path → Hdr} {w : World} (hk : HeapOK cx (HeapOf st Hd) w) {k : K} {e : Ent} {p : Path} {sz : Nat} {es : List (List T)} (he : st (.k k) = .e e) (hr : rowAt e.sz e.es p = some (sz, es))
    {i j : Nat} {el : List T} {t : T} {y : Value} (hi : es[i]? = some el) (hj : el[j]? = some t) (hok : TOK cx (Hd k (p ++ [(i, j)])) t y) : COK cx st Hd (toC1 k e.ver p i j t) y := by
  cases t with
  | v x => obtain rfl : y = x := hok; exact .v _
  | d => exact .u _
  | s o sz' es' =>
    cases o with
    | false => exact .b _ _ _ hok
    | true =>
      obtain ⟨a, rfl, ha⟩ := hok
      have hr' : rowAt e.sz e.es (p ++ [(i, j)]) = some (sz', es') := by
        rw [rowAt_append, hr]; simp [rowAt, cellAt, hi, hj]
      have hrow := row_of hk he hr'
      refine .r _ _ _ _ _ _ _ ⟨by rw [he]; simp, fun e' h => ?_⟩ hrow.1 (fun sz1 es1 h1 hh => ?_)
      · rw [he] at h; obtain rfl := X.e.inj h; exact Nat.le_refl _
      · obtain ⟨e', h2, _, h3, h4⟩ := hh
        rw [he] at h2
        obtain rfl := X.e.inj h2
        rw [hr'] at h3
        obtain ⟨rfl, rfl⟩ := Prod.mk.inj (Option.some.inj h3)
        subst h4
        exact ⟨by omega, fun hc => ⟨by simpa using ha hc, by omega⟩⟩
def toB1 : T → C
  | .v x => .v x
  | .s false sz es => .b sz es
  | _ => .u
theorem toB_get : ∀ (ts : List T) (m : Nat), (toB ts)[m]? = (ts[m]?).map toB1
  | [], m => by simp [toB]
  | t :: ts, 0 => by cases t with
    | v x => simp [toB, toB1]
    | d => simp [toB, toB1]
    | s o sz es => cases o <;> simp [toB, toB1]
  | t :: ts, m + 1 => by
    have := toB_get ts m
    cases t with
    | v x => simp [toB, this]
    | d => simp [toB, this]
    | s o sz es => cases o <;> simp [toB, this]
theorem toB_length : ∀ (ts : List T), (toB ts).length = ts.length
  | [] => rfl
  | t :: ts => by
    have := toB_length ts
    cases t with
    | v x => simp [toB, this]
    | d => simp [toB, this]
    | s o sz es => cases o <;> simp [toB, this]
theorem toB1_ok {cx : Cx} {st : St} {Hd : K → Path → Hdr} {t : T} {y : Value} (h : BorT cx.w0 cx.X t y) : COK cx st Hd (toB1 t) y := by
  cases h with
  | v => exact .v _
  | d => exact .u _
  | s y sz es h => exact .b _ _ _ h
theorem Keep.cell {cx : Cx} {w : World} (h : Keep cx w) {b o : Nat} {y : Value} (hX : ¬ cx.X b) (hc : cx.w0.cell? ⟨b, o, none⟩ = some y) : w.cell? ⟨b, o, none⟩ = some y := by
  have hlt : b < cx.w0.heap.size := by
    unfold World.cell? at hc
    by_cases hb : b < cx.w0.heap.size
    · exact hb
    · simp [Array.getElem?_eq_none (Nat.le_of_not_lt hb)] at hc
  unfold World.cell? at hc ⊢
  simp only [h.block b hlt hX]
  exact hc
theorem mutual_getR {P : Program} {st : St} {k : K} {ver : Nat} {p : Path} {f : Ent → Nat → List (List T) → M} {Kc : Ws → Prop} (hm : (getR [] k ver p f).wp P st Kc) :
    ∃ e sz es, st (.k k) = .e e ∧ (p = [] ∨ e.ver = ver) ∧ rowAt e.sz e.es p = some (sz, es) ∧ (f e sz es).wp P st Kc := by
  simp only [getR, getE, ovl, M.wp] at hm
  cases hs : st (.k k) with
  | v v => rw [hs] at hm; exact hm.elim
  | gone => rw [hs] at hm; exact hm.elim
  | none => rw [hs] at hm; exact hm.elim
  | e e =>
    rw [hs] at hm
    simp only [M.wp] at hm
    obtain ⟨h1, hm⟩ := hm
    cases hr : rowAt e.sz e.es p with
    | none => rw [hr] at hm; exact hm.elim
    | some x => obtain ⟨sz, es⟩ := x; rw [hr] at hm; exact ⟨e, sz, es, rfl, h1, hr, hm⟩
section
variable {P : Program} {cx : Cx} {n : Nat} {st : St} {Hd : K → Path → Hdr} {a : Act} {w : World} {o : Oper} {Kc : Ws → Prop} {KC : Act → World → Prop} {Q : Exit → Act → World → Prop}
theorem put_wp (h : Rel cx n st Hd a w) (hd : ∀ t, o.dst = some t → t < n) {v : V} {y : Value} (hrun : (execOp a.eval o).run P w = .ok (.value y) w) (hv : VOK cx st Hd v y) (hm : (put o.dst v []).wp P st Kc)
    (hK : ∀ ws Hd' a' w', Kc ws → Rel cx n (app ws st) Hd' a' w' → KC a' w') : o.wp P a w KC Q := by
  unfold Oper.wp
  rw [hrun]
  show KC (a.put o.dst y) w
  have hr := h.put hd hv
  refine hK _ _ _ _ ?_ hr
  revert hm
  generalize o.dst = d
  cases d <;> exact id
theorem size_run {P : Program} {t : TypeId} {n : Nat} (h : szOf P t = some n) (w : World) : (sizeOf t).run P w = .ok n w := by
  unfold szOf at h
  cases hi : P.info? t with
  | none => simp [hi] at h
  | some i => simp [hi] at h; simp [sizeOf, typeInfo, hi, h]
theorem agg_run {P : Program} {t : TypeId} {g : Bool} (h : aggOf P t = some g) (w : World) : (isAgg t).run P w = .ok g w := by
  unfold aggOf at h
  cases hi : P.underlying t with
  | none => simp [hi] at h
  | some d =>
    simp [hi] at h
    subst h
    cases d <;> simp [isAgg, run_underlying hi]
theorem elem_run {P : Program} {t e : TypeId} (h : elemOf P t = some e) : P.underlying t = some (.slice e) := by
  unfold elemOf at h
  split at h
  · rename_i e' he; rw [he]; simpa using h
  · simp at h
theorem whole_ok {g : Bool} {cs : List C} {k : V → M} (hm : (whole g cs k).wp P st Kc) (hlen : cs.length ≠ 0) {ys : Array Value} (hl : ys.size = cs.length) (h : ∀ (i : Nat) (c : C) (y : Value), cs[i]? = some c → ys[i]? = some y → COK cx st Hd c y) :
    ∃ v, (k v).wp P st Kc ∧ (g = true → VOK cx st Hd v (.agg ys)) ∧ (g = false → ∃ y, ys = #[y] ∧ VOK cx st Hd v y) := by
  cases g with
  | true => exact ⟨_, hm, fun _ => .a _ _ hl h, fun h => by simp at h⟩
  | false =>
    match cs, hm with
    | [c], hm =>
      refine ⟨_, hm, fun h => by simp at h, fun _ => ?_⟩
      have h1 : ys.size = 1 := by simpa using hl
      refine ⟨ys[0], ?_, .c _ _ (h 0 c _ rfl (by simp))⟩
      apply Array.ext
      · simp [h1]
      · intro i h2 h3
        have : i = 0 := by omega
        subst this; simp
    | [], hm => simp at hlen
    | _ :: _ :: _, hm => exact hm.elim
theorem load_run {P : Program} {t : TypeId} {n : Nat} {g : Bool} (hs : szOf P t = some n) (hg : aggOf P t = some g) {a : Addr} {ys : Array Value} {w : World} (hl : ys.size = n) (hn : g = false → n = 1)
    (hc : ∀ j y, ys[j]? = some y → w.cell? (a.add j) = some y) : (Instr.loadAt t (.pointer (some a))).run P w = .ok (if g then .agg ys else ys.getD 0 undef) w := by
  have hlc := run_loadCells_list (P := P) w a ys.toList (fun j v h => hc j v (by simpa using h))
  simp only [Array.length_toList, Array.toArray_toList] at hlc
  rw [hl] at hlc
  cases g with
  | true => simp [Instr.loadAt, Instr.sureAddr, loadVar, agg_run hg, size_run hs, hlc]
  | false =>
    have h1 := hn rfl
    have h0 : w.cell? (a.add 0) = some (ys.getD 0 undef) := hc 0 _ (by simp [Array.getD_eq_getD_getElem?, hl, h1])
    have ha : a.add 0 = a := rfl
    rw [ha] at h0
    simp [Instr.loadAt, Instr.sureAddr, loadVar, agg_run hg, load, Sem.run, h0]
end
end Go.Abs
namespace Go.Abs
open Go
variable [Amb]
section
variable {P : Program} {md : Nat → Nat → Bool} {cx : Cx} {n : Nat} {st : St} {Hd : K → Path → Hdr} {a : Act} {w : World} {o : Oper} {Kc : Ws → Prop} {KC : Act → World → Prop} {Q : Exit → Act → World → Prop}
theorem array_of {n : Nat} {R : Nat → Value → Prop} (h : ∀ j, j < n → ∃ y, R j y) : ∃ ys : Array Value, ys.size = n ∧ ∀ j y, ys[j]? = some y → R j y := by
  induction n with
  | zero => exact ⟨#[], rfl, fun j y h => by simp at h⟩
  | succ n ih =>
    obtain ⟨ys, h1, h2⟩ := ih (fun j hj => h j (by omega))
    obtain ⟨y, hy⟩ := h n (by omega)
    refine ⟨ys.push y, by simp [h1], fun j z hz => ?_⟩
    rw [Array.getElem?_push] at hz
    split at hz
    · obtain rfl := Option.some.inj hz; rw [show j = n by omega]; exact hy
    · exact h2 j z hz
theorem Bor.inv {w : World} {X : Nat → Prop} {y : Value} {sz : Nat} {es : List (List T)} (h : Bor w X y sz es) : ∃ (a : Option Addr) (cap b o : Nat) (g : Nat → Nat → Value), y = .slice a es.length cap ∧ es.length ≤ cap ∧ (∀ (i : Nat) (e : List T), es[i]? = some e → e.length = sz) ∧
    (es = [] ∨ (a = some ⟨b, o, none⟩ ∧ ¬ X b)) ∧ (∀ (i : Nat) (e : List T) (j : Nat) (t : T), es[i]? = some e → e[j]? = some t → w.cell? ⟨b, o + (i * sz + j), none⟩ = some (g i j)) ∧
    (∀ (i : Nat) (e : List T) (j : Nat) (t : T), es[i]? = some e → e[j]? = some t → BorT w X t (g i j)) := by
  cases h with
  | mk a cap sz es b o g hl hsz ha hc ht => exact ⟨a, cap, b, o, g, rfl, hl, hsz, ha, hc, ht⟩
theorem Bor.at {w : World} {X : Nat → Prop} {b o len cap sz : Nat} {es : List (List T)} (h : Bor w X (.slice (some ⟨b, o, none⟩) len cap) sz es) (hne : es ≠ []) : ¬ X b ∧ (∀ (i : Nat) (e : List T), es[i]? = some e → e.length = sz) ∧
    ∀ (i : Nat) (e : List T) (j : Nat) (t : T), es[i]? = some e → e[j]? = some t → ∃ y, w.cell? ⟨b, o + (i * sz + j), none⟩ = some y ∧ BorT w X t y := by
  obtain ⟨a', cap', b', o', g, hy, hl, hsz, ha, hc, ht⟩ := h.inv
  rcases ha with ha | ⟨rfl, hX⟩
  · exact absurd ha hne
  · injection hy with h1 h2 h3
    injection h1 with h1
    injection h1 with h4 h5
    subst h4; subst h5
    exact ⟨hX, hsz, fun i e j t he hj => ⟨g i j, hc i e j t he hj, ht i e j t he hj⟩⟩
theorem exec_load {t : TypeId} {x : Operand} {y : Value} (ho : o.op = .load t x) (hr : (Instr.loadAt t (a.eval x)).run P w = .ok y w) : (execOp a.eval o).run P w = .ok (.value y) w := by
  simp [execOp, ho, hr]
theorem op_load (h : Rel cx n st Hd a w) (hd : ∀ t, o.dst = some t → t < n) {t : TypeId} {x : Operand} (ho : o.op = .load t x) (hm : (opM P md o).wp P st Kc)
    (hK : ∀ ws Hd' a' w', Kc ws → Rel cx n (app ws st) Hd' a' w' → KC a' w') : o.wp P a w KC Q := by
  simp only [opM, ho] at hm
  cases hs : szOf P t with
  | none => simp [hs, M.wp] at hm
  | some m =>
  cases hg : aggOf P t with
  | none => simp [hs, hg, M.wp] at hm
  | some g =>
  simp only [hs, hg] at hm
  obtain ⟨v, hv, hm⟩ := getO_ok h hm
  generalize hev : a.eval x = y0 at hv
  cases hv with
  | c c y hc => exact hm.elim
  | a cs ys h1 h2 => exact hm.elim
  | t vs ys h1 h2 => exact hm.elim
  | f fn caps ys h1 h2 => exact hm.elim
  | u => exact hm.elim
  | p k ver p i off ad hk hv =>
    obtain ⟨e, sz, es, he, hver, hr, hm⟩ := mutual_getR hm
    cases hi : es[i]? with
    | none => rw [hi] at hm; exact hm.elim
    | some el =>
      rw [hi] at hm
      obtain ⟨⟨hm0, hle⟩, hm⟩ := hm
      have hrow := row_of h.heap he hr
      have hil := (List.getElem?_eq_some_iff.1 hi).1
      have had := hv sz es _ ⟨e, he, hver, hr, rfl⟩ hil
      obtain ⟨ys, hys, hR⟩ := array_of (n := m) (R := fun j y => w.cell? (ad.add j) = some y ∧ ∀ t, el[off + j]? = some t → COK cx st Hd (toC1 k e.ver p i (off + j) t) y) (fun j hj => by
        have hlt : off + j < el.length := by omega
        obtain ⟨h1, y, hy, hok⟩ := row_cell hrow hi (List.getElem?_eq_getElem hlt)
        refine ⟨y, ?_, fun t ht => ?_⟩
        · rw [had, addr_add, Nat.add_assoc, Nat.add_assoc]; exact hy
        · rw [List.getElem?_eq_getElem hlt] at ht
          obtain rfl := Option.some.inj ht
          exact toC1_ok h.heap he hr hi (List.getElem?_eq_getElem hlt) hok)
      have hlen : (toC k e.ver p i off ((el.drop off).take m)).length = m := by rw [toC_length]; simp; omega
      obtain ⟨v, hm, hv1, hv2⟩ := whole_ok hm (by omega) (ys := ys) (by omega) (fun j c y hc hy => by
        rw [toC_get] at hc
        cases hq : ((el.drop off).take m)[j]? with
        | none => simp [hq] at hc
        | some t =>
          rw [hq] at hc
          obtain rfl := Option.some.inj hc
          have hj : j < m := by have := (List.getElem?_eq_some_iff.1 hq).1; simp at this; omega
          rw [List.getElem?_take_of_lt hj, List.getElem?_drop] at hq
          exact (hR j y hy).2 t hq)
      have hrun : (Instr.loadAt t (a.eval x)).run P w = .ok (if g then .agg ys else ys.getD 0 undef) w := by
        rw [hev]
        refine load_run hs hg hys (fun hg' => ?_) (fun j y hy => (hR j y hy).1)
        obtain ⟨y, hy, _⟩ := hv2 hg'
        rw [← hys, hy]; rfl
      refine put_wp h hd (exec_load ho hrun) ?_ hm hK
      cases g with
      | true => exact hv1 rfl
      | false => obtain ⟨y, hy, hvy⟩ := hv2 rfl; rw [hy]; exact hvy
  | q sz es i off b oo cap hb hi =>
    have hne : es ≠ [] := by intro e; subst e; simp at hi
    obtain ⟨hX, hsz, hcells⟩ := hb.at hne
    have hi' := List.getElem?_eq_getElem hi
    simp only [hi'] at hm
    obtain ⟨⟨hm0, hle⟩, hm⟩ := hm
    obtain ⟨ys, hys, hR⟩ := array_of (n := m) (R := fun j y => w.cell? (Addr.add ⟨b, oo + (i * sz + off), none⟩ j) = some y ∧ ∀ t, es[i][off + j]? = some t → COK cx st Hd (toB1 t) y) (fun j hj => by
      have hlt : off + j < es[i].length := by omega
      obtain ⟨y, hy, hok⟩ := hcells i es[i] (off + j) _ hi' (List.getElem?_eq_getElem hlt)
      refine ⟨y, ?_, fun t ht => ?_⟩
      · rw [addr_add, Nat.add_assoc, Nat.add_assoc]; exact h.keep.cell hX hy
      · rw [List.getElem?_eq_getElem hlt] at ht
        obtain rfl := Option.some.inj ht
        exact toB1_ok hok)
    have hlen : (toB ((es[i].drop off).take m)).length = m := by rw [toB_length]; simp; omega
    obtain ⟨v, hm, hv1, hv2⟩ := whole_ok hm (by omega) (ys := ys) (by omega) (fun j c y hc hy => by
      rw [toB_get] at hc
      cases hq : ((es[i].drop off).take m)[j]? with
      | none => simp [hq] at hc
      | some t =>
        rw [hq] at hc
        obtain rfl := Option.some.inj hc
        have hj : j < m := by have := (List.getElem?_eq_some_iff.1 hq).1; simp at this; omega
        rw [List.getElem?_take_of_lt hj, List.getElem?_drop] at hq
        exact (hR j y hy).2 t hq)
    have hrun : (Instr.loadAt t (a.eval x)).run P w = .ok (if g then .agg ys else ys.getD 0 undef) w := by
      rw [hev]
      refine load_run hs hg hys (fun hg' => ?_) (fun j y hy => (hR j y hy).1)
      obtain ⟨y, hy, _⟩ := hv2 hg'
      rw [← hys, hy]; rfl
    refine put_wp h hd (exec_load ho hrun) ?_ hm hK
    cases g with
    | true => exact hv1 rfl
    | false => obtain ⟨y, hy, hvy⟩ := hv2 rfl; rw [hy]; exact hvy
theorem op_move (h : Rel cx n st Hd a w) (hd : ∀ t, o.dst = some t → t < n) {x : Operand} (ho : o.op = .move x ∨ o.op = .assign x) (hm : (opM P md o).wp P st Kc)
    (hK : ∀ ws Hd' a' w', Kc ws → Rel cx n (app ws st) Hd' a' w' → KC a' w') : o.wp P a w KC Q := by
  have hm' : (getO x fun v => put o.dst v []).wp P st Kc := by
    rcases ho with ho | ho <;> simpa [opM, ho] using hm
  obtain ⟨v, hv, hm⟩ := getO_ok h hm'
  refine put_wp h hd ?_ hv hm hK
  rcases ho with ho | ho <;> simp [execOp, ho]
theorem boolV_ok {v : V} {y : Value} {b : Bool} (hv : VOK cx st Hd v y) (hb : boolV v = some b) : y = .bool b := by
  unfold boolV at hb
  split at hb
  · obtain rfl := Option.some.inj hb
    cases hv with | c _ _ h => cases h with | v => rfl
  · simp at hb
theorem intV_ok {v : V} {y : Value} {b : Int} (hv : VOK cx st Hd v y) (hb : intV v = some b) : y = .int .i64 b := by
  unfold intV at hb
  split at hb
  · obtain rfl := Option.some.inj hb
    cases hv with | c _ _ h => cases h with | v => rfl
  · simp at hb
theorem op_pick (h : Rel cx n st Hd a w) (hd : ∀ t, o.dst = some t → t < n) {x y z : Operand} (ho : o.op = .pick x y z) (hm : (opM P md o).wp P st Kc)
    (hK : ∀ ws Hd' a' w', Kc ws → Rel cx n (app ws st) Hd' a' w' → KC a' w') : o.wp P a w KC Q := by
  simp only [opM, ho] at hm
  obtain ⟨v, hv, hm⟩ := getO_ok h hm
  cases hb : boolV v with
  | none => simp [hb, M.wp] at hm
  | some b =>
    have hx := boolV_ok hv hb
    simp only [hb] at hm
    cases b with
    | true =>
      simp only [if_true] at hm
      obtain ⟨v, hv, hm⟩ := getO_ok h hm
      exact put_wp h hd (by simp [execOp, ho, hx, asBool]) hv hm hK
    | false =>
      simp only [Bool.false_eq_true, if_false] at hm
      obtain ⟨v, hv, hm⟩ := getO_ok h hm
      exact put_wp h hd (by simp [execOp, ho, hx, asBool]) hv hm hK
theorem op_nilCheck (h : Rel cx n st Hd a w) (hd : ∀ t, o.dst = some t → t < n) {x : Operand} (ho : o.op = .nilCheck x) (hm : (opM P md o).wp P st Kc)
    (hK : ∀ ws Hd' a' w', Kc ws → Rel cx n (app ws st) Hd' a' w' → KC a' w') : o.wp P a w KC Q := by
  simp only [opM, ho] at hm
  obtain ⟨v, hv, hm⟩ := getO_ok h hm
  generalize hev : a.eval x = y0 at hv
  cases hv with
  | p k ver p i off ad hk hv' => exact put_wp h hd (by simp [execOp, ho, hev]) (.p _ _ _ _ _ _ hk hv') hm hK
  | q sz es i off b oo cap hb hi => exact put_wp h hd (by simp [execOp, ho, hev]) (.q _ _ _ _ _ _ _ hb hi) hm hK
  | c c y hc => exact hm.elim
  | a cs ys h1 h2 => exact hm.elim
  | t vs ys h1 h2 => exact hm.elim
  | f fn caps ys h1 h2 => exact hm.elim
  | u => exact hm.elim
theorem op_unOp (h : Rel cx n st Hd a w) (hd : ∀ t, o.dst = some t → t < n) {u : UnOp} {t : TypeId} {x : Operand} (ho : o.op = .unOp u t x) (hm : (opM P md o).wp P st Kc)
    (hK : ∀ ws Hd' a' w', Kc ws → Rel cx n (app ws st) Hd' a' w' → KC a' w') : o.wp P a w KC Q := by
  simp only [opM, ho] at hm
  obtain ⟨v, hv, hm⟩ := getO_ok h hm
  generalize hev : a.eval x = y0 at hv
  split at hm
  · cases hv with | c _ _ hc => cases hc with | v => exact put_wp h hd (by simp [execOp, ho, hev, Op.unary]) (.c _ _ (.v _)) hm hK
  · cases hv with | c _ _ hc => cases hc with | v => exact put_wp h hd (by simp [execOp, ho, hev, Op.unary, Op.intArith]) (.c _ _ (.v _)) hm hK
  · exact hm.elim
end
end Go.Abs
namespace Go.Abs
open Go
variable [Amb]
section
variable {P : Program} {md : Nat → Nat → Bool} {cx : Cx} {n : Nat} {st : St} {Hd : K → Path → Hdr} {a : Act} {w : World} {o : Oper} {Kc : Ws → Prop} {KC : Act → World → Prop} {Q : Exit → Act → World → Prop}
theorem fieldOf_spec {s : TypeId} {f off m : Nat} {g : Bool} (h : fieldOf P s f = some (off, m, g)) :
    ∃ fs x, P.underlying s = some (.struct fs) ∧ fs[f]? = some x ∧ x.offset = off ∧ szOf P x.type = some m ∧ aggOf P x.type = some g ∧ m ≠ 0 := by
  unfold fieldOf at h
  split at h
  · rename_i fs hu
    split at h
    · rename_i x hx
      split at h
      · rename_i n' g' h1 h2
        split at h
        · simp at h
        · rename_i hne
          simp only [Option.some.injEq, Prod.mk.injEq] at h
          obtain ⟨rfl, rfl, rfl⟩ := h
          exact ⟨fs, x, hu, hx, rfl, h1, h2, hne⟩
      · simp at h
    · simp at h
  · simp at h
theorem fieldAt_run {s : TypeId} {f off m : Nat} {g : Bool} (h : fieldOf P s f = some (off, m, g)) (ad : Addr) (w : World) : (Instr.fieldAt s (.pointer (some ad)) f).run P w = .ok (.pointer (some (ad.add off))) w := by
  obtain ⟨fs, x, h1, h2, rfl, h4, h5, h6⟩ := fieldOf_spec h
  simp [Instr.fieldAt, run_underlying h1, h2, Instr.sureAddr, fieldPlace, size_run h4, h6]
theorem ptrTo_ok {v : V} {y : Value} {off : Nat} {k : V → M} (hv : VOK cx st Hd v y) (hm : (ptrTo v off k).wp P st Kc) : ∃ ad v', y = .pointer (some ad) ∧ VOK cx st Hd v' (.pointer (some (ad.add off))) ∧ (k v').wp P st Kc := by
  cases hv with
  | p r ver p i o ad hk hv' =>
    refine ⟨ad, _, rfl, .p _ _ _ _ _ _ hk (fun sz es h hh hi => ?_), hm⟩
    rw [hv' sz es h hh hi, addr_add, Nat.add_assoc, Nat.add_assoc]
  | q sz es i o b oo cap hb hi =>
    refine ⟨_, _, rfl, ?_, hm⟩
    rw [addr_add, Nat.add_assoc, Nat.add_assoc]
    exact .q _ _ _ _ _ _ _ hb hi
  | c c y hc => exact hm.elim
  | a cs ys h1 h2 => exact hm.elim
  | t vs ys h1 h2 => exact hm.elim
  | f fn caps ys h1 h2 => exact hm.elim
  | u => exact hm.elim
theorem op_fieldAddr (h : Rel cx n st Hd a w) (hd : ∀ t, o.dst = some t → t < n) {s : TypeId} {x : Operand} {f : Nat} (ho : o.op = .fieldAddr s x f) (hm : (opM P md o).wp P st Kc)
    (hK : ∀ ws Hd' a' w', Kc ws → Rel cx n (app ws st) Hd' a' w' → KC a' w') : o.wp P a w KC Q := by
  simp only [opM, ho] at hm
  cases hf : fieldOf P s f with
  | none => simp [hf, M.wp] at hm
  | some x3 =>
    obtain ⟨off, m, g⟩ := x3
    simp only [hf] at hm
    obtain ⟨v, hv, hm⟩ := getO_ok h hm
    obtain ⟨ad, v', hy, hv', hm⟩ := ptrTo_ok hv hm
    exact put_wp h hd (by simp [execOp, ho, hy, fieldAt_run hf]) hv' hm hK
theorem op_field (h : Rel cx n st Hd a w) (hd : ∀ t, o.dst = some t → t < n) {s : TypeId} {x : Operand} {f : Nat} (ho : o.op = .field s x f) (hm : (opM P md o).wp P st Kc)
    (hK : ∀ ws Hd' a' w', Kc ws → Rel cx n (app ws st) Hd' a' w' → KC a' w') : o.wp P a w KC Q := by
  simp only [opM, ho] at hm
  cases hf : fieldOf P s f with
  | none => simp [hf, M.wp] at hm
  | some x3 =>
    obtain ⟨off, m, g⟩ := x3
    simp only [hf] at hm
    obtain ⟨v, hv, hm⟩ := getO_ok h hm
    generalize hev : a.eval x = y0 at hv
    cases hv with
    | p k ver p i off ad hk hv' => exact hm.elim
    | q sz es i off b oo cap hb hi => exact hm.elim
    | c c y hc => exact hm.elim
    | t vs ys h1 h2 => exact hm.elim
    | f fn caps ys h1 h2 => exact hm.elim
    | u => exact hm.elim
    | a cs ys h1 h2 =>
      obtain ⟨hle, hm1⟩ := hm
      obtain ⟨fs, xf, k1, k2, rfl, k4, k5, k6⟩ := fieldOf_spec hf
      have hlen : ((cs.drop xf.offset).take m).length = m := by simp; omega
      have hys : (ys.extract xf.offset (xf.offset + m)).size = m := by simp; omega
      obtain ⟨v, hm2, hv1, hv2⟩ := whole_ok hm1 (by omega) (ys := ys.extract xf.offset (xf.offset + m)) (by omega) (fun j c y hc hy => by
        have hj : j < m := by have := (List.getElem?_eq_some_iff.1 hc).1; omega
        rw [List.getElem?_take_of_lt hj, List.getElem?_drop] at hc
        rw [Array.getElem?_extract] at hy
        split at hy
        · exact h2 _ _ _ hc hy
        · simp at hy)
      cases g with
      | true => exact put_wp h hd (by simp [execOp, ho, hev, Instr.field, run_underlying k1, k2, asAgg, part, agg_run k5, size_run k4]) (hv1 rfl) hm2 hK
      | false =>
        obtain ⟨y, hy, hvy⟩ := hv2 rfl
        have h3 : ys[xf.offset]? = some y := by
          have h4 := congrArg (fun z : Array Value => z[0]?) hy
          rw [hy] at hys
          simp only [Array.getElem?_extract] at h4
          have h5 : 0 < m := by omega
          have h6 : xf.offset < cs.length := by omega
          simp [h1, h6] at h4 ⊢
          exact h4.2
        exact put_wp h hd (by simp [execOp, ho, hev, Instr.field, run_underlying k1, k2, asAgg, part, agg_run k5, h3]) hvy hm2 hK
theorem op_extract (h : Rel cx n st Hd a w) (hd : ∀ t, o.dst = some t → t < n) {x : Operand} {i : Nat} (ho : o.op = .extract x i) (hm : (opM P md o).wp P st Kc)
    (hK : ∀ ws Hd' a' w', Kc ws → Rel cx n (app ws st) Hd' a' w' → KC a' w') : o.wp P a w KC Q := by
  simp only [opM, ho] at hm
  obtain ⟨v, hv, hm⟩ := getO_ok h hm
  generalize hev : a.eval x = y0 at hv
  cases hv with
  | p k ver p i off ad hk hv' => exact hm.elim
  | q sz es i off b oo cap hb hi => exact hm.elim
  | c c y hc => exact hm.elim
  | a vs ys h1 h2 => exact hm.elim
  | f fn caps ys h1 h2 => exact hm.elim
  | u => exact hm.elim
  | t vs ys h1 h2 =>
    cases hi : vs[i]? with
    | none => simp [hi, M.wp] at hm
    | some v =>
      simp only [hi] at hm
      have hlt := (List.getElem?_eq_some_iff.1 hi).1
      have hy : ys[i]? = some ys[i] := by simp
      exact put_wp h hd (by simp [execOp, ho, hev, Instr.extract, hy]) (h2 _ _ _ hi hy) hm hK
theorem op_indexAddr (h : Rel cx n st Hd a w) (hd : ∀ t, o.dst = some t → t < n) {t : TypeId} {x ix : Operand} (ho : o.op = .indexAddr t x ix) (hm : (opM P md o).wp P st Kc)
    (hK : ∀ ws Hd' a' w', Kc ws → Rel cx n (app ws st) Hd' a' w' → KC a' w') : o.wp P a w KC Q := by
  simp only [opM, ho] at hm
  cases hel : elemOf P t with
  | none => simp [hel, M.wp] at hm
  | some e =>
  cases hs : szOf P e with
  | none => simp [hel, hs, M.wp] at hm
  | some m =>
  simp only [hel, hs] at hm
  obtain ⟨v, hv, hm1⟩ := getO_ok h hm
  obtain ⟨vi, hvi, hm2⟩ := getO_ok h hm1
  cases hi : intV vi with
  | none => simp [hi, M.wp] at hm2
  | some i =>
  simp only [hi] at hm2
  clear hm hm1
  have hyi := intV_ok hvi hi
  have hu := elem_run hel
  generalize hev : a.eval x = y0 at hv
  cases hv with
  | p k ver p i off ad hk hv' => exact hm2.elim
  | q sz es i off b oo cap hb hi => exact hm2.elim
  | a vs ys h1 h2 => exact hm2.elim
  | t vs ys h1 h2 => exact hm2.elim
  | f fn caps ys h1 h2 => exact hm2.elim
  | u => exact hm2.elim
  | c c y hc =>
    cases hc with
    | v =>
      cases hvw : LentV.view y0 with
      | none => simp [hvw, M.wp] at hm2
      | some z =>
        obtain ⟨sz, es⟩ := z
        simp only [hvw] at hm2
        have hb := Amb.law _ _ _ _ _ hvw h.amb
        obtain ⟨⟨h0, h1, hsz0⟩, hm3⟩ := hm2
        subst hsz0
        obtain ⟨a', cap, b, oo, g, rfl, hl, hsz, ha, hcc, ht⟩ := hb.inv
        have hlt : i.toNat < es.length := by omega
        rcases ha with ha | ⟨rfl, hX⟩
        · subst ha; simp at hlt
        · refine put_wp h hd (y := .pointer (some ⟨b, oo + (i.toNat * sz + 0), none⟩)) ?_ (.q _ _ _ _ _ _ _ hb hlt) hm3 hK
          simp [execOp, ho, hev, hyi, Instr.indexAt, asIntOf, run_underlying hu, h0, h1, size_run hs, addr_add]
    | n => exact hm2.elim
    | u => exact hm2.elim
    | b _ sz es hb =>
      obtain ⟨⟨h0, h1, hsz0⟩, hm3⟩ := hm2
      subst hsz0
      obtain ⟨a', cap, b, oo, g, rfl, hl, hsz, ha, hcc, ht⟩ := hb.inv
      have hlt : i.toNat < es.length := by omega
      rcases ha with ha | ⟨rfl, hX⟩
      · subst ha; simp at hlt
      · refine put_wp h hd (y := .pointer (some ⟨b, oo + (i.toNat * sz + 0), none⟩)) ?_ (.q _ _ _ _ _ _ _ hb hlt) hm3 hK
        simp [execOp, ho, hev, hyi, Instr.indexAt, asIntOf, run_underlying hu, h0, h1, size_run hs, addr_add]
    | r k ver p off len a' cap hk hl hv' =>
      obtain ⟨ee, sz, es, he, hver, hr, hm3⟩ := mutual_getR hm2
      obtain ⟨⟨h0, h1, h2, hsz0⟩, hm4⟩ := hm3
      subst hsz0
      obtain ⟨_, h4⟩ := hv' _ _ _ ⟨ee, he, hver, hr, rfl⟩
      obtain ⟨rfl, h5⟩ := h4 (by omega)
      refine put_wp h hd (y := .pointer (some ⟨(Hd k p).b, (Hd k p).o + ((off + i.toNat) * sz + 0), none⟩)) ?_ (.p _ _ _ _ _ _ hk (fun sz1 es1 g hh hi1 => ?_)) hm4 hK
      · simp [execOp, ho, hev, hyi, Instr.indexAt, asIntOf, run_underlying hu, h0, h1, size_run hs, addr_add, Nat.add_mul, Nat.add_assoc]
      · obtain ⟨e2, g1, _, g3, g4⟩ := hh
        rw [he] at g1
        obtain rfl := X.e.inj g1
        rw [hr] at g3
        obtain ⟨rfl, rfl⟩ := Prod.mk.inj (Option.some.inj g3)
        subst g4
        rfl
end
end Go.Abs
namespace Go.Abs
open Go
variable [Amb]
theorem eqVs_split : ∀ (k1 k2 : List EK) (xs ys : List Value) (r : Bool), eqVs (k1 ++ k2) xs ys = some r → ∃ r1 r2, eqVs k1 (xs.take k1.length) (ys.take k1.length) = some r1 ∧ eqVs k2 (xs.drop k1.length) (ys.drop k1.length) = some r2 ∧ r = (r1 && r2)
  | [], k2, xs, ys, r, h => ⟨true, r, by simp [eqVs], by simpa using h, by simp⟩
  | k :: k1, k2, [], ys, r, h => by simp [eqVs] at h
  | k :: k1, k2, _ :: _, [], r, h => by simp [eqVs] at h
  | k :: k1, k2, x :: xs, y :: ys, r, h => by
    simp only [List.cons_append, eqVs] at h
    cases h1 : eqV k x y with
    | none => simp [h1] at h
    | some a =>
      cases h2 : eqVs (k1 ++ k2) xs ys with
      | none => simp [h1, h2] at h
      | some b =>
        simp only [h1, h2, Option.some.injEq] at h
        obtain ⟨r1, r2, h3, h4, h5⟩ := eqVs_split k1 k2 xs ys b h2
        exact ⟨a && r1, r2, by simp [eqVs, h1, h3], by simpa using h4, by rw [← h, h5, Bool.and_assoc]⟩
theorem eqVs_length : ∀ (ks : List EK) (xs ys : List Value) (r : Bool), eqVs ks xs ys = some r → xs.length = ks.length ∧ ys.length = ks.length
  | [], [], [], r, h => ⟨rfl, rfl⟩
  | [], _ :: _, _, r, h => by simp [eqVs] at h
  | [], [], _ :: _, r, h => by simp [eqVs] at h
  | k :: ks, [], _, r, h => by simp [eqVs] at h
  | k :: ks, _ :: _, [], r, h => by simp [eqVs] at h
  | k :: ks, x :: xs, y :: ys, r, h => by
    simp only [eqVs] at h
    cases h1 : eqV k x y with
    | none => simp [h1] at h
    | some a =>
      cases h2 : eqVs ks xs ys with
      | none => simp [h1, h2] at h
      | some b =>
        have := eqVs_length ks xs ys b h2
        exact ⟨by simp [this.1], by simp [this.2]⟩
def wrapV (g : Bool) (xs : List Value) : Value := if g then .agg xs.toArray else xs.getD 0 undef
theorem flat_size {P : Program} {k : Nat} {t : TypeId} {ks : List EK} (h : flatEq P k t = some ks) : ∃ g, aggOf P t = some g ∧ (g = false → ks.length = 1) := by
  cases k with
  | zero => simp [flatEq] at h
  | succ k =>
    simp only [flatEq] at h
    split at h
    · rename_i h1; exact ⟨false, by simp [aggOf, h1], fun _ => by rw [← Option.some.inj h]; rfl⟩
    · rename_i h1; exact ⟨false, by simp [aggOf, h1], fun _ => by rw [← Option.some.inj h]; rfl⟩
    · rename_i h1; exact ⟨false, by simp [aggOf, h1], fun _ => by rw [← Option.some.inj h]; rfl⟩
    · rename_i h1; exact ⟨true, by simp [aggOf, h1], fun h => by simp at h⟩
    · simp at h
theorem part_run {P : Program} {t : TypeId} {l m : Nat} {g : Bool} (hg : aggOf P t = some g) (hs : szOf P t = some l) (hl : g = false → l = 1) (xs : List Value) (hx : m + l ≤ xs.length) (w : World) :
    (part t xs.toArray m).run P w = .ok (wrapV g ((xs.drop m).take l)) w := by
  cases g with
  | true =>
    simp only [part, Sem.run_bind, agg_run hg, Result.andThen_ok, Sem.run_ite, if_true, size_run hs, Sem.run_pure, wrapV]
    congr 2
    apply Array.ext'
    simp [List.extract_eq_take_drop, Nat.add_sub_cancel_left]
  | false =>
    have h1 := hl rfl
    subst h1
    have h2 : xs[m]? = some xs[m] := List.getElem?_eq_getElem (by omega)
    have h3 : ((xs.drop m).take 1).getD 0 undef = xs[m] := by
      simp [List.getD, List.getElem?_take, h2]
    simp [part, agg_run hg, wrapV, h2, h3]
theorem flat_fields {P : Program} {d k : Nat} (ih : ∀ (t : TypeId) (ks : List EK) (g : Bool) (xs ys : List Value) (r : Bool) (w : World), flatEq P k t = some ks → aggOf P t = some g → eqVs ks xs ys = some r → (Op.equalIn d t (wrapV g xs) (wrapV g ys)).run P w = .ok r w) :
    ∀ (fs : List Field) (m : Nat) (ks : List EK) (xs ys : List Value) (r : Bool) (w : World), flatFs P (flatEq P k) m fs = some ks → m ≤ xs.length → m ≤ ys.length → eqVs ks (xs.drop m) (ys.drop m) = some r →
      (Op.eqFields d xs.toArray ys.toArray fs).run P w = .ok r w
  | [], m, ks, xs, ys, r, w, h, hx, hy, hr => by
    simp only [flatFs, Option.some.injEq] at h
    subst h
    cases h1 : xs.drop m <;> cases h2 : ys.drop m <;> simp [h1, h2, eqVs] at hr
    simp [Op.eqFields, hr]
  | f :: fs, m, ks, xs, ys, r, w, h, hx, hy, hr => by
    simp only [flatFs] at h
    cases h1 : flatEq P k f.type with
    | none => simp [h1] at h
    | some l =>
    cases h2 : szOf P f.type with
    | none => simp [h1, h2] at h
    | some l' =>
    simp only [h1, h2] at h
    split at h
    · rename_i hc
      obtain ⟨hn, ho, hl⟩ := hc
      cases h3 : flatFs P (flatEq P k) (m + l.length) fs with
      | none => simp [h3] at h
      | some ks' =>
        simp only [h3, Option.map_some, Option.some.injEq] at h
        subst h
        obtain ⟨r1, r2, e1, e2, rfl⟩ := eqVs_split _ _ _ _ _ hr
        obtain ⟨g, hg, hg1⟩ := flat_size h1
        have hlen := eqVs_length _ _ _ _ e1
        simp only [List.length_take, List.length_drop] at hlen
        have hpx := part_run (P := P) hg (hl ▸ h2) hg1 xs (m := m) (by omega) w
        have hpy := part_run (P := P) hg (hl ▸ h2) hg1 ys (m := m) (by omega) w
        have heq := ih f.type l g _ _ r1 w h1 hg e1
        simp only [List.drop_drop] at e2
        have hrest := flat_fields ih fs (m + l.length) ks' xs ys r2 w h3 (by omega) (by omega) e2
        simp only [Op.eqFields, if_pos hn, Sem.run_bind, ho, hpx, hpy, Result.andThen_ok, heq]
        cases r1 <;> simp [hrest]
    · simp at h
theorem flat_equal {P : Program} : ∀ (k d : Nat) (t : TypeId) (ks : List EK) (g : Bool) (xs ys : List Value) (r : Bool) (w : World), k ≤ d → flatEq P k t = some ks → aggOf P t = some g → eqVs ks xs ys = some r →
    (Op.equalIn d t (wrapV g xs) (wrapV g ys)).run P w = .ok r w := by
  intro k
  induction k with
  | zero => intro d t n g xs ys r w hd h; simp [flatEq] at h
  | succ k ih =>
    intro d t ks g xs ys r w hd h hg hr
    obtain ⟨d, rfl⟩ : ∃ m, d = m + 1 := ⟨d - 1, by omega⟩
    have one : ks.length = 1 → ∃ x y, xs = [x] ∧ ys = [y] := by
      intro hn
      have := eqVs_length _ _ _ _ hr
      obtain ⟨x, rfl⟩ := List.length_eq_one_iff.1 (this.1.trans hn)
      obtain ⟨y, rfl⟩ := List.length_eq_one_iff.1 (this.2.trans hn)
      exact ⟨x, y, rfl, rfl⟩
    simp only [flatEq] at h
    split at h
    · rename_i h1
      obtain rfl := Option.some.inj h
      obtain ⟨x, y, rfl, rfl⟩ := one rfl
      have hgf : g = false := by simpa [aggOf, h1] using hg.symm
      subst hgf
      simp only [eqVs] at hr
      cases x <;> cases y <;> simp [eqV] at hr
      subst hr
      simp [wrapV, Op.equalIn, run_underlying h1]
    · rename_i h1
      obtain rfl := Option.some.inj h
      obtain ⟨x, y, rfl, rfl⟩ := one rfl
      have hgf : g = false := by simpa [aggOf, h1] using hg.symm
      subst hgf
      simp only [eqVs] at hr
      cases x <;> cases y <;> simp only [eqV] at hr <;> (try simp at hr)
      rename_i k1 x1 k2 y1
      by_cases hk : k1 = k2
      · subst hk
        simp at hr
        subst hr
        simp [wrapV, Op.equalIn, run_underlying h1]
      · simp [hk] at hr
    · rename_i h1
      obtain rfl := Option.some.inj h
      obtain ⟨x, y, rfl, rfl⟩ := one rfl
      have hgf : g = false := by simpa [aggOf, h1] using hg.symm
      subst hgf
      simp only [eqVs] at hr
      cases x <;> cases y <;> simp [eqV] at hr
      subst hr
      simp [wrapV, Op.equalIn, run_underlying h1, beq_toListBytes]
    · rename_i fs h1
      have hgt : g = true := by simpa [aggOf, h1] using hg.symm
      subst hgt
      split at h
      · simp at h
      · rename_i hst
        have hfo : P.fieldsOf t = fs := by simp [Program.fieldsOf, h1]
        simp only [wrapV, if_true]
        rw [run_equalIn_struct w d t _ _ (by rw [hfo]; exact h1) (by simpa using hst), hfo]
        exact flat_fields (fun t ks g xs ys r w h hg hr => ih d t ks g xs ys r w (by omega) h hg hr) _ 0 ks xs ys r w h (Nat.zero_le _) (Nat.zero_le _) (by simpa using hr)
    · simp at h
end Go.Abs
namespace Go.Abs
open Go
variable [Amb]
section
variable {P : Program} {md : Nat → Nat → Bool} {cx : Cx} {n : Nat} {st : St} {Hd : K → Path → Hdr} {a : Act} {w : World} {o : Oper} {Kc : Ws → Prop} {KC : Act → World → Prop} {Q : Exit → Act → World → Prop}
theorem cv_inv {x y : Value} (h : VOK cx st Hd (.c (.v x)) y) : y = x := by
  cases h with | c _ _ h => cases h with | v => rfl
theorem allV_ok : ∀ {cs : List C} {xs : List Value}, allV cs = some xs → xs.length = cs.length ∧ ∀ (i : Nat) (c : C) (x : Value), cs[i]? = some c → xs[i]? = some x → c = .v x
  | [], xs, h => by simp [allV] at h; subst h; simp
  | .v y :: cs, xs, h => by
    simp only [allV] at h
    cases h1 : allV cs with
    | none => simp [h1] at h
    | some ys =>
      simp only [h1, Option.map_some, Option.some.injEq] at h
      subst h
      obtain ⟨h2, h3⟩ := allV_ok h1
      refine ⟨by simp [h2], fun i c x hc hx => ?_⟩
      cases i with
      | zero => simp at hc hx; rw [← hc, ← hx]
      | succ i => exact h3 i c x (by simpa using hc) (by simpa using hx)
  | .b _ _ :: cs, xs, h => by simp [allV] at h
  | .r _ _ _ _ _ :: cs, xs, h => by simp [allV] at h
  | .n :: cs, xs, h => by simp [allV] at h
  | .u :: cs, xs, h => by simp [allV] at h
theorem agg_inv {cs : List C} {xs : List Value} {y : Value} (h : VOK cx st Hd (.a cs) y) (hx : allV cs = some xs) : y = .agg xs.toArray := by
  cases h with
  | a cs ys hl h =>
    obtain ⟨h1, h2⟩ := allV_ok hx
    congr 1
    apply Array.ext
    · simp [hl, h1]
    · intro i h3 h4
      have hi : i < xs.length := by simpa using h4
      have hc : cs[i]? = some cs[i] := List.getElem?_eq_getElem (by omega)
      have := h2 i _ xs[i] hc (List.getElem?_eq_getElem hi)
      have hh := h i _ ys[i] hc (by simp [h3])
      rw [this] at hh
      have h5 : ys[i] = xs[i] := by
        generalize ys[i] = z at hh
        generalize xs[i] = z' at hh
        cases hh; rfl
      simpa using h5
theorem guard_int {op : BinOp} {t : TypeId} {x y : Operand} {k k' : IntKind} {m n : Int} : (eqGuard op t x y (.int k m) (.int k' n)).run P w = .ok () w := by
  cases op <;> simp [eqGuard]
theorem guard_bool {op : BinOp} {t : TypeId} {x y : Operand} {m n : Bool} : (eqGuard op t x y (.bool m) (.bool n)).run P w = .ok () w := by
  cases op <;> simp [eqGuard]
theorem guard_string {op : BinOp} {t : TypeId} {x y : Operand} {m n : ByteArray} : (eqGuard op t x y (.string m) (.string n)).run P w = .ok () w := by
  cases op <;> simp [eqGuard]
theorem guard_slice {op : BinOp} {t : TypeId} {x y : Operand} {p q : Option Addr} {i j k l : Nat} : (eqGuard op t x y (.slice p i j) (.slice q k l)).run P w = .ok () w := by
  cases op <;> simp [eqGuard]
theorem int_run {op : BinOp} {t : TypeId} {k : IntKind} {m n : Int} {r : Value} (h : intBin op k m n = some r) : (binOp op t (.int k m) (.int k n)).run P w = .ok r w := by
  cases op <;> simp only [intBin] at h <;> (try (simp at h; done)) <;> (try split at h) <;> (try (simp at h; done)) <;> (obtain rfl := Option.some.inj h) <;>
    simp_all [binOp, Op.intArith, Op.intDiv, Op.intCmp, Op.intBits, andI, xorI]
theorem shr_run {t : TypeId} {k k' : IntKind} {m n : Int} (h : 0 ≤ n) : (binOp .shr t (.int k m) (.int k' n)).run P w = .ok (.int k (shrI k m n)) w := by
  simp [binOp, Op.shift, shrI, show ¬ n < 0 by omega]
theorem nil_inv {y : Value} (h : VOK cx st Hd (.c .n) y) : y = .slice none 0 0 := by
  cases h with | c _ _ h => cases h with | n => rfl
theorem str_add {t : TypeId} {m m' : ByteArray} (hlt : m.size + m'.size ≤ 1073741824) : (binOp .add t (.string m) (.string m')).run P w = .ok (.string (m ++ m')) w := by
  have : ¬ (((m.size + m'.size : Nat) : Int) > IntKind.i64.max) := by
    have : IntKind.i64.max = 9223372036854775807 := by decide
    omega
  show (Op.stringOp .add m m').run P w = _
  simp only [Op.stringOp, if_neg this]
  rfl
theorem bool_eql {t : TypeId} {m n : Bool} (h1 : P.underlying t = some .bool) : (binOp .eql t (.bool m) (.bool n)).run P w = .ok (.bool (m == n)) w := by
  have h2 : (Op.equalIn 10000 t (.bool m) (.bool n)).run P w = .ok (m == n) w := run_equalIn_bool' w 9999 t m n h1
  show (do let r ← Op.equalIn 10000 t (.bool m) (.bool n); pure (Value.bool r) : Sem Value).run P w = _
  simp only [Sem.run_bind, h2, Result.andThen_ok, Sem.run_pure]
theorem bool_neq {t : TypeId} {m n : Bool} (h1 : P.underlying t = some .bool) : (binOp .neq t (.bool m) (.bool n)).run P w = .ok (.bool (!(m == n))) w := by
  have h2 : (Op.equalIn 10000 t (.bool m) (.bool n)).run P w = .ok (m == n) w := run_equalIn_bool' w 9999 t m n h1
  show (do let r ← Op.equalIn 10000 t (.bool m) (.bool n); pure (Value.bool (!r)) : Sem Value).run P w = _
  simp only [Sem.run_bind, h2, Result.andThen_ok, Sem.run_pure]
theorem slice_nil_in {t e : TypeId} {a' : Option Addr} {l cap : Nat} (d : Nat) (h1 : P.underlying t = some (.slice e)) : (Op.equalIn (d + 1) t (.slice a' l cap) (.slice none 0 0)).run P w = .ok a'.isNone w := by
  cases a' <;> simp [Op.equalIn, run_underlying h1]
theorem slice_nil {t e : TypeId} {a' : Option Addr} {l cap : Nat} (h1 : P.underlying t = some (.slice e)) : (binOp .eql t (.slice a' l cap) (.slice none 0 0)).run P w = .ok (.bool a'.isNone) w := by
  have h2 : (Op.equalIn 10000 t (.slice a' l cap) (.slice none 0 0)).run P w = .ok a'.isNone w := slice_nil_in 9999 h1
  show (do let r ← Op.equalIn 10000 t (.slice a' l cap) (.slice none 0 0); pure (Value.bool r) : Sem Value).run P w = _
  simp only [Sem.run_bind, h2, Result.andThen_ok, Sem.run_pure]
theorem op_binOp (h : Rel cx n st Hd a w) (hd : ∀ t, o.dst = some t → t < n) {op : BinOp} {t t' : TypeId} {x y : Operand} (ho : o.op = .binOp op t x y t') (hm : (opM P md o).wp P st Kc)
    (hK : ∀ ws Hd' a' w', Kc ws → Rel cx n (app ws st) Hd' a' w' → KC a' w') : o.wp P a w KC Q := by
  simp only [opM, ho] at hm
  obtain ⟨v, hv, hm1⟩ := getO_ok h hm
  obtain ⟨v2, hu, hm2⟩ := getO_ok h hm1
  clear hm hm1
  have run : ∀ {r}, (do eqGuard op t x y (a.eval x) (a.eval y); binOp op t (a.eval x) (a.eval y) : Sem Value).run P w = .ok r w → (execOp a.eval o).run P w = .ok (.value r) w := by
    intro r hr
    simp only [Sem.run_bind] at hr
    simp only [execOp, ho, Sem.run_bind, Sem.run_pure]
    rw [hr]; rfl
  unfold binM at hm2
  split at hm2
  · rename_i k m k' m'
    split at hm2
    · rename_i hk
      subst hk
      split at hm2
      · rename_i r hr
        refine put_wp h hd (run ?_) (.c _ _ (.v _)) hm2 hK
        rw [cv_inv hv, cv_inv hu]
        simp only [Sem.run_bind, guard_int, Result.andThen_ok]
        exact int_run hr
      · exact hm2.elim
    · split at hm2
      · obtain ⟨h0, hm2⟩ := hm2
        refine put_wp h hd (run ?_) (.c _ _ (.v _)) hm2 hK
        rw [cv_inv hv, cv_inv hu]
        simp only [Sem.run_bind, guard_int, Result.andThen_ok]
        exact shr_run h0
      · exact hm2.elim
  · rename_i m m'
    split at hm2
    · rename_i h1
      refine put_wp h hd (run ?_) (.c _ _ (.v _)) hm2 hK
      rw [cv_inv hv, cv_inv hu]
      simp only [Sem.run_bind, guard_bool, Result.andThen_ok, bool_eql h1]
    · rename_i h1
      refine put_wp h hd (run ?_) (.c _ _ (.v _)) hm2 hK
      rw [cv_inv hv, cv_inv hu]
      simp only [Sem.run_bind, guard_bool, Result.andThen_ok, bool_neq h1]
    · exact hm2.elim
  · rename_i m m'
    split at hm2
    · obtain ⟨hlt, hm2⟩ := hm2
      refine put_wp h hd (run ?_) (.c _ _ (.v _)) hm2 hK
      rw [cv_inv hv, cv_inv hu]
      simp only [Sem.run_bind, guard_string, Result.andThen_ok, str_add hlt]
    · refine put_wp h hd (run ?_) (.c _ _ (.v _)) hm2 hK
      rw [cv_inv hv, cv_inv hu]
      simp [guard_string, binOp, Op.stringOp]
    · refine put_wp h hd (run ?_) (.c _ _ (.v _)) hm2 hK
      rw [cv_inv hv, cv_inv hu]
      simp [guard_string, binOp, Op.stringOp]
    · exact hm2.elim
  · rename_i xs ys
    split at hm2
    · rename_i xs' ys' hx hy
      split at hm2
      · rename_i ks h1 h2 h3
        have hg : aggOf P t = some true := by
          obtain ⟨g, hg, _⟩ := flat_size h3
          rw [hg]; simpa [isStruct, hg] using h1
        have hE : ∀ {r}, eqVs ks xs' ys' = some r → (Op.equalIn 10000 t (.agg xs'.toArray) (.agg ys'.toArray)).run P w = .ok r w := fun hr => flat_equal 12 10000 t ks true xs' ys' _ w (by omega) h3 hg hr
        split at hm2
        · rename_i r hr
          refine put_wp h hd (run ?_) (.c _ _ (.v _)) hm2 hK
          rw [agg_inv hv hx, agg_inv hu hy]
          simp [run_eqGuard_agg w _ t x y _ _ h2, run_eql_struct, hE hr]
        · rename_i r hr
          refine put_wp h hd (run ?_) (.c _ _ (.v _)) hm2 hK
          rw [agg_inv hv hx, agg_inv hu hy]
          simp [run_eqGuard_agg w _ t x y _ _ h2, run_neq_struct, hE hr]
        · exact hm2.elim
      · exact hm2.elim
    · exact hm2.elim
  · rename_i sz es
    have hu' := nil_inv hu
    generalize hev : a.eval x = y0 at hv
    cases hv with | c _ _ hc => cases hc with | b _ _ _ hb =>
    split at hm2
    · rename_i e1 h1
      obtain ⟨a', cap, b, oo, g, rfl, hl, hsz, ha, hcc, ht⟩ := hb.inv
      split at hm2
      · refine put_wp h hd (run ?_) (.c _ _ (.v _)) (hm2 a'.isNone) hK
        rw [hev, hu']
        simp only [Sem.run_bind, guard_slice, Result.andThen_ok]
        exact slice_nil h1
      · rcases ha with ha | ⟨rfl, _⟩
        · simp at ha
        · refine put_wp h hd (run ?_) (.c _ _ (.v _)) hm2 hK
          rw [hev, hu']
          simp only [Sem.run_bind, guard_slice, Result.andThen_ok]
          exact slice_nil h1
    · exact hm2.elim
  · exact hm2.elim
end
end Go.Abs
namespace Go.Abs
open Go
variable [Amb]
section
variable {P : Program} {md : Nat → Nat → Bool} {cx : Cx} {n : Nat} {st : St} {Hd : K → Path → Hdr} {a : Act} {w : World} {o : Oper} {Kc : Ws → Prop} {KC : Act → World → Prop} {Q : Exit → Act → World → Prop}
theorem getOs_ok (h : Rel cx n st Hd a w) : ∀ {os : List Operand} {k : List V → M} {Kc : Ws → Prop}, (getOs os k).wp P st Kc →
    ∃ vs, vs.length = os.length ∧ (∀ (i : Nat) (v : V) (x : Operand), vs[i]? = some v → os[i]? = some x → VOK cx st Hd v (a.eval x)) ∧ (k vs).wp P st Kc
  | [], k, Kc, hm => ⟨[], rfl, fun i v x h1 => by simp at h1, hm⟩
  | o :: os, k, Kc, hm => by
    obtain ⟨v, hv, hm⟩ := getO_ok h hm
    obtain ⟨vs, h1, h2, hm⟩ := getOs_ok h hm
    refine ⟨v :: vs, by simp [h1], fun i v' x h3 h4 => ?_, hm⟩
    cases i with
    | zero => simp at h3 h4; subst h3; subst h4; exact hv
    | succ i => exact h2 i v' x (by simpa using h3) (by simpa using h4)
theorem lenV_ok {v : V} {y : Value} {m : Nat} (hv : VOK cx st Hd v y) (h : lenV v = some m) : ∃ a cap, y = .slice a m cap := by
  unfold lenV at h
  split at h
  · obtain rfl := Option.some.inj h
    cases hv with | c _ _ hc => cases hc with | b _ _ _ hb => obtain ⟨a, cap, _, _, _, rfl, _⟩ := hb.inv; exact ⟨a, cap, rfl⟩
  · obtain rfl := Option.some.inj h
    cases hv with | c _ _ hc => cases hc with | r => exact ⟨_, _, rfl⟩
  · obtain rfl := Option.some.inj h
    rw [nil_inv hv]; exact ⟨_, _, rfl⟩
  · obtain rfl := Option.some.inj h
    cases hv with | c _ _ hc => cases hc; exact ⟨_, _, rfl⟩
  · simp at h
theorem op_makeFunc (h : Rel cx n st Hd a w) (hd : ∀ t, o.dst = some t → t < n) {f : FuncId} {first caps : Array Operand} (ho : o.op = .makeFunc (.func f) first caps) (hm : (opM P md o).wp P st Kc)
    (hK : ∀ ws Hd' a' w', Kc ws → Rel cx n (app ws st) Hd' a' w' → KC a' w') : o.wp P a w KC Q := by
  simp only [opM, ho] at hm
  split at hm
  · rename_i hf
    obtain ⟨vs, h1, h2, hm⟩ := getOs_ok h hm
    have hf' : first = #[] := by simpa using hf
    subst hf'
    refine put_wp h hd (y := .func (.func f) #[] (caps.map a.eval)) (by simp [execOp, ho, Instr.makeFunc]) (.f _ _ _ (by simpa using h1.symm) (fun i v y hv hy => ?_)) hm hK
    rw [Array.getElem?_map] at hy
    cases hc : caps[i]? with
    | none => simp [hc] at hy
    | some x =>
      simp only [hc, Option.map_some, Option.some.injEq] at hy
      rw [← hy]
      exact h2 i v x hv (by simpa using hc)
  · exact hm.elim
theorem call_builtin {c : Call} {b : Builtin} (ho : o.op = .call c) (hc : c.callee = .builtin b) {v : Value} {s : Sem Value} (hb : builtin b c.argTypes o.type (c.args.map fun | .const _ => true | _ => false) (c.args.map a.eval) = (do pure (.value (← s))))
    (hr : s.run P w = .ok v w) : (execOp a.eval o).run P w = .ok (.value v) w := by
  simp only [execOp, ho]
  simp only [resolve, hc, Sem.run_bind, Sem.run_pure, Result.andThen_ok, invoke]
  refine Eq.trans (congrArg (fun s => Sem.run P s w) hb) ?_
  simp only [Sem.run_bind, hr, Result.andThen_ok, Sem.run_pure]
theorem op_len (h : Rel cx n st Hd a w) (hd : ∀ t, o.dst = some t → t < n) {c : Call} (ho : o.op = .call c) (hc : c.callee = .builtin .len) (hm : (opM P md o).wp P st Kc)
    (hK : ∀ ws Hd' a' w', Kc ws → Rel cx n (app ws st) Hd' a' w' → KC a' w') : o.wp P a w KC Q := by
  simp only [opM, ho, hc] at hm
  cases hds : o.dst with
  | none => simp only [hds] at hm; exact hm.elim
  | some d =>
    simp only [hds] at hm
    split at hm
    · rename_i x t ha ht
      have hargs : c.args = #[x] := by rw [← Array.toArray_toList (xs := c.args), ha]
      have htys : c.argTypes = #[t] := by rw [← Array.toArray_toList (xs := c.argTypes), ht]
      cases hel : elemOf P t with
      | none =>
        simp only [hel, lenS] at hm
        split at hm
        · rename_i hst
          obtain ⟨v, hv, hm⟩ := getO_ok h hm
          generalize hev : a.eval x = y0 at hv
          split at hm
          · cases hv with | c _ _ hcc => cases hcc with | v =>
            refine put_wp h hd (y := .int .i64 _) (call_builtin ho hc (s := Builtin.len_ c.argTypes o.type (c.args.map a.eval)) rfl ?_) (.c _ _ (.v _)) (by rw [hds]; exact hm) hK
            simp [hargs, htys, Builtin.len_, hev, run_underlying hst, goInt]
          · exact hm.elim
        · exact hm.elim
      | some e =>
      simp only [hel] at hm
      obtain ⟨v, hv, hm⟩ := getO_ok h hm
      cases hl : lenV v with
      | none => simp [hl, M.wp] at hm
      | some m =>
      simp only [hl] at hm
      obtain ⟨a', cap, hy⟩ := lenV_ok hv hl
      have hargs : c.args = #[x] := by rw [← Array.toArray_toList (xs := c.args), ha]
      have htys : c.argTypes = #[t] := by rw [← Array.toArray_toList (xs := c.argTypes), ht]
      refine put_wp h hd (y := .int .i64 m) (call_builtin ho hc (s := Builtin.len_ c.argTypes o.type (c.args.map a.eval)) rfl ?_) (.c _ _ (.v _)) (by rw [hds]; exact hm) hK
      simp [hargs, htys, Builtin.len_, hy, run_underlying (elem_run hel), goInt]
    · exact hm.elim
theorem minV_ok {x y r : V} {p q : Value} (hx : VOK cx st Hd x p) (hy : VOK cx st Hd y q) (h : minV x y = some r) : ∃ z, (Builtin.min2 p q).run P w = .ok z w ∧ VOK cx st Hd r z := by
  unfold minV at h
  split at h
  · split at h
    · obtain rfl := Option.some.inj h
      rw [cv_inv hx, cv_inv hy]
      exact ⟨_, by simp [Builtin.min2], .c _ _ (.v _)⟩
    · simp at h
  · simp at h
theorem maxV_ok {x y r : V} {p q : Value} (hx : VOK cx st Hd x p) (hy : VOK cx st Hd y q) (h : maxV x y = some r) : ∃ z, (Builtin.max2 p q).run P w = .ok z w ∧ VOK cx st Hd r z := by
  unfold maxV at h
  split at h
  · split at h
    · obtain rfl := Option.some.inj h
      rw [cv_inv hx, cv_inv hy]
      exact ⟨_, by simp [Builtin.max2], .c _ _ (.v _)⟩
    · simp at h
  · simp at h
theorem op_min (h : Rel cx n st Hd a w) (hd : ∀ t, o.dst = some t → t < n) {c : Call} (ho : o.op = .call c) (hc : c.callee = .builtin .min) (hm : (opM P md o).wp P st Kc)
    (hK : ∀ ws Hd' a' w', Kc ws → Rel cx n (app ws st) Hd' a' w' → KC a' w') : o.wp P a w KC Q := by
  simp only [opM, ho, hc] at hm
  cases hds : o.dst with
  | none => simp only [hds] at hm; exact hm.elim
  | some d =>
    simp only [hds] at hm
    split at hm
    · rename_i x y ha
      obtain ⟨v, hv, hm⟩ := getO_ok h hm
      obtain ⟨v2, hv2, hm⟩ := getO_ok h hm
      cases hl : minV v v2 with
      | none => simp [hl, M.wp] at hm
      | some m =>
      simp only [hl] at hm
      obtain ⟨z, hz, hvz⟩ := minV_ok (P := P) (w := w) hv hv2 hl
      have hargs : c.args = #[x, y] := by rw [← Array.toArray_toList (xs := c.args), ha]
      refine put_wp h hd (call_builtin ho hc (s := Builtin.min_ c.argTypes o.type (c.args.map a.eval)) rfl ?_) hvz (by rw [hds]; exact hm) hK
      simp [hargs, Builtin.min_, hz]
    · exact hm.elim
theorem op_max (h : Rel cx n st Hd a w) (hd : ∀ t, o.dst = some t → t < n) {c : Call} (ho : o.op = .call c) (hc : c.callee = .builtin .max) (hm : (opM P md o).wp P st Kc)
    (hK : ∀ ws Hd' a' w', Kc ws → Rel cx n (app ws st) Hd' a' w' → KC a' w') : o.wp P a w KC Q := by
  simp only [opM, ho, hc] at hm
  cases hds : o.dst with
  | none => simp only [hds] at hm; exact hm.elim
  | some d =>
    simp only [hds] at hm
    split at hm
    · rename_i x y ha
      obtain ⟨v, hv, hm⟩ := getO_ok h hm
      obtain ⟨v2, hv2, hm⟩ := getO_ok h hm
      cases hl : maxV v v2 with
      | none => simp [hl, M.wp] at hm
      | some m =>
      simp only [hl] at hm
      obtain ⟨z, hz, hvz⟩ := maxV_ok (P := P) (w := w) hv hv2 hl
      have hargs : c.args = #[x, y] := by rw [← Array.toArray_toList (xs := c.args), ha]
      refine put_wp h hd (call_builtin ho hc (s := Builtin.max_ c.argTypes o.type (c.args.map a.eval)) rfl ?_) hvz (by rw [hds]; exact hm) hK
      simp [hargs, Builtin.max_, hz]
    · exact hm.elim
def OV (cx : Cx) (st : St) (Hd : K → Path → Hdr) (a : Act) : Option V → Option Operand → Prop
  | none, none => True
  | some v, some x => VOK cx st Hd v (a.eval x)
  | _, _ => False
theorem getOpt_ok (h : Rel cx n st Hd a w) {x : Option Operand} {k : Option V → M} {Kc : Ws → Prop} (hm : (getOpt x k).wp P st Kc) :
    ∃ v, OV cx st Hd a v x ∧ (k v).wp P st Kc := by
  cases x with
  | none => exact ⟨none, trivial, hm⟩
  | some x => obtain ⟨v, hv, hm⟩ := getO_ok h hm; exact ⟨some v, hv, hm⟩
def BV (a : Act) (x : Option Operand) (dflt : Nat) (i : Int) : Prop := match x with
  | none => i = dflt
  | some x => a.eval x = .int .i64 i
theorem optI_ok {x : Option Operand} {v : Option V} (hv : OV cx st Hd a v x) {dflt : Nat} {k : Int → M} {Kc : Ws → Prop} (hm : (optI v dflt k).wp P st Kc) :
    ∃ i, BV a x dflt i ∧ (k i).wp P st Kc := by
  cases v with
  | none => cases x with
    | none => exact ⟨dflt, rfl, hm⟩
    | some x => exact hv.elim
  | some v => cases x with
    | none => exact hv.elim
    | some x =>
      simp only [optI] at hm
      cases hi : intV v with
      | none => simp [hi, M.wp] at hm
      | some i => simp only [hi] at hm; exact ⟨i, intV_ok hv hi, hm⟩
theorem slice_run {t e : TypeId} {m : Nat} (hel : elemOf P t = some e) (hs : szOf P e = some m) {a' : Option Addr} {len cap : Nat} {lo hi : Option Operand} {i j : Int} (hlo : BV a lo 0 i) (hhi : BV a hi len j) (h0 : 0 ≤ i) (h1 : i ≤ j) (h2 : j ≤ len) (hc : len ≤ cap) :
    (Instr.sliceAt t (.slice a' len cap) (lo.map a.eval) (hi.map a.eval) none).run P w = .ok (.slice (if cap = i.toNat then a' else a'.map (·.add (i.toNat * m))) (j - i).toNat (cap - i.toNat)) w := by
  have hu := elem_run hel
  have hj : j ≤ cap := by omega
  have hj0 : 0 ≤ j := by omega
  cases lo with
  | none =>
    simp only [BV] at hlo
    obtain rfl : i = 0 := by simpa using hlo
    cases hi with
    | none =>
      simp only [BV] at hhi
      subst hhi
      simp [Instr.sliceAt, run_underlying hu, Instr.slice, Instr.sliceBounds, size_run hs]
    | some y =>
      simp only [BV] at hhi
      simp [Instr.sliceAt, run_underlying hu, Instr.slice, Instr.sliceBounds, Instr.sliceBound, hhi, asIntOf, hj, hj0, size_run hs]
  | some x =>
    simp only [BV] at hlo
    cases hi with
    | none =>
      simp only [BV] at hhi
      subst hhi
      simp [Instr.sliceAt, run_underlying hu, Instr.slice, Instr.sliceBounds, Instr.sliceBound, hlo, asIntOf, h0, h1, size_run hs]
      omega
    | some y =>
      simp only [BV] at hhi
      have h3 : i ≤ (j.toNat : Int) := by omega
      have h4 : max j 0 = j := by omega
      have h5 : (j - i).toNat = j.toNat - i.toNat := by omega
      simp [h4, h5, Instr.sliceAt, run_underlying hu, Instr.slice, Instr.sliceBounds, Instr.sliceBound, hlo, hhi, asIntOf, hj, hj0, h0, h3, h1, size_run hs]
theorem op_slice (h : Rel cx n st Hd a w) (hd : ∀ t, o.dst = some t → t < n) {t : TypeId} {x : Operand} {lo hi mx : Option Operand} (ho : o.op = .slice t x lo hi mx) (hm : (opM P md o).wp P st Kc)
    (hK : ∀ ws Hd' a' w', Kc ws → Rel cx n (app ws st) Hd' a' w' → KC a' w') : o.wp P a w KC Q := by
  simp only [opM, ho] at hm
  cases hel : elemOf P t with
  | none => simp [hel, M.wp] at hm
  | some e =>
  cases mx with
  | some _ => simp [hel, M.wp] at hm
  | none =>
  cases hs : szOf P e with
  | none => simp [hel, hs, M.wp] at hm
  | some m =>
  simp only [hel, hs] at hm
  obtain ⟨v, hv, hm1⟩ := getO_ok h hm
  obtain ⟨vl, hvl, hm2⟩ := getOpt_ok h hm1
  obtain ⟨vh, hvh, hm3⟩ := getOpt_ok h hm2
  cases hl : lenV v with
  | none => simp [hl, M.wp] at hm3
  | some len =>
  simp only [hl] at hm3
  obtain ⟨hm0, hm3⟩ := hm3
  obtain ⟨i, hi1, hm4⟩ := optI_ok hvl hm3
  obtain ⟨j, hj1, hm5⟩ := optI_ok hvh hm4
  clear hm hm1 hm2 hm3 hm4
  have run : ∀ {r}, (Instr.sliceAt t (a.eval x) (lo.map a.eval) (hi.map a.eval) none).run P w = .ok r w → (execOp a.eval o).run P w = .ok (.value r) w := by
    intro r hr
    simp only [execOp, ho, Sem.run_bind, Sem.run_pure, Option.map_none]
    rw [hr]; rfl
  generalize hev : a.eval x = y0 at hv
  unfold sliceM at hm5
  split at hm5
  · rename_i sz es
    obtain ⟨⟨h0, h1, h2, rfl⟩, hm6⟩ := hm5
    simp only [lenV, Option.some.injEq] at hl
    subst hl
    cases hv with | c _ _ hc => cases hc with | b _ _ _ hb =>
    obtain ⟨a', cap, b, oo, g, rfl, hle, hsz, ha, hcc, ht⟩ := hb.inv
    have hlen : ((es.drop i.toNat).take (j - i).toNat).length = (j - i).toNat := by simp; omega
    have hget : ∀ (x : Nat) (e : List T), ((es.drop i.toNat).take (j - i).toNat)[x]? = some e → es[i.toNat + x]? = some e := by
      intro x e hx
      have : x < (j - i).toNat := by have := (List.getElem?_eq_some_iff.1 hx).1; omega
      rw [List.getElem?_take_of_lt this, List.getElem?_drop] at hx
      exact hx
    have key : Bor cx.w0 cx.X (.slice (if cap = i.toNat then a' else a'.map (·.add (i.toNat * sz))) ((es.drop i.toNat).take (j - i).toNat).length (cap - i.toNat)) sz ((es.drop i.toNat).take (j - i).toNat) := by
      refine .mk _ _ _ _ b (oo + i.toNat * sz) (fun x y => g (i.toNat + x) y) (by rw [hlen]; omega) (fun x e hx => hsz _ _ (hget x e hx)) ?_ ?_ (fun x e y t hx hy => ht _ _ _ _ (hget x e hx) hy)
      · rcases ha with ha | ⟨rfl, hX⟩
        · subst ha; exact .inl (by simp)
        · by_cases hz : cap = i.toNat
          · refine .inl (List.eq_nil_of_length_eq_zero ?_); omega
          · refine .inr ⟨?_, hX⟩
            rw [if_neg hz, Option.map_some, addr_add]
      · intro x e y t hx hy
        have := hcc _ _ _ _ (hget x e hx) hy
        rw [Nat.add_mul] at this
        rw [show oo + i.toNat * sz + (x * sz + y) = oo + (i.toNat * sz + x * sz + y) by omega]
        exact this
    rw [hlen] at key
    exact put_wp h hd (run (by rw [hev]; exact slice_run hel hs hi1 hj1 h0 h1 h2 hle)) (.c _ _ (.b _ _ _ key)) hm6 hK
  · rename_i k ver p off len'
    obtain ⟨e1, sz1, es1, he, hver, hr, hm5⟩ := mutual_getR hm5
    obtain ⟨⟨h0, h1, h2, rfl⟩, hm6⟩ := hm5
    simp only [lenV, Option.some.injEq] at hl
    subst hl
    cases hv with | c _ _ hc => cases hc with | r _ _ _ _ _ a' cap hk hle hv' =>
    refine put_wp h hd (run (by rw [hev]; exact slice_run hel hs hi1 hj1 h0 h1 h2 hle)) (.c _ _ (.r _ _ _ _ _ _ _ hk (by omega) (fun sz es g hh => ?_))) hm6 hK
    obtain ⟨h3, h4⟩ := hv' sz es g hh
    refine ⟨by omega, fun hc => ?_⟩
    obtain ⟨rfl, h5⟩ := h4 (by omega)
    obtain ⟨e2, g1, _, g3, g4⟩ := hh
    rw [he] at g1
    obtain rfl := X.e.inj g1
    rw [hr] at g3
    obtain ⟨rfl, rfl⟩ := Prod.mk.inj (Option.some.inj g3)
    rw [if_neg (by omega), Option.map_some, addr_add, Nat.add_mul, Nat.add_assoc]
    exact ⟨rfl, by omega⟩
  · obtain ⟨⟨rfl, rfl⟩, hm6⟩ := hm5
    rw [nil_inv hv] at hev
    simp only [lenV, Option.some.injEq] at hl
    subst hl
    refine put_wp h hd (run (by rw [hev]; exact slice_run hel hs hi1 hj1 (by omega) (by omega) (by omega) (by omega))) ?_ hm6 hK
    exact .c _ _ .n
  · exact hm5.elim
end
end Go.Abs
