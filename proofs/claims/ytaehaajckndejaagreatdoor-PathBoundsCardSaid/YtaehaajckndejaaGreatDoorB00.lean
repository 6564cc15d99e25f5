/- a deterministic interpreter over the model's code, with pure data (definitions, first rules); no conditions. -/
import GoSem.Step
import Derived.Below
import Derived.Calls
import Derived.Laws.Cells
import Derived.Laws.Strings
import Derived.Laws.Strings2
import Derived.Laws.BytesString
import Derived.Laws.IdiomStrings
set_option linter.all false
namespace Go.Mini
open Go
inductive MV where
 | int (k : IntKind) (n : Int)
 | bool (b : Bool)
 | str (s : List UInt8)
 | nilsl
 | bs (l : List UInt8)
 | sl (s : Nat) (l : List MV)
 | fsl (s : Nat) (l : List MV)
 | agg (l : List MV)
 | tup (l : List MV)
 | nilptr
 | nilfn
 | nilif
 | iface (t : TypeId) (v : MV)
 | fn (f : FuncId) (caps : List MV)
 | own (o n : Nat)
 | ptr (o j : Nat)
 | eptr (o i j n : Nat)
 | cptr (l : List MV)
 | fby (l : List UInt8)
 | fel (s : Nat) (l : List MV)
 | undef
 deriving Inhabited
def MV.cells : MV→List MV
 | .agg l=>l
 | v=>[v]
inductive Obj where
 | cells (l : List MV)
 | byt (l : List UInt8) (lent : Bool)
 | el (s : Nat) (l : List MV) (lent : Bool)
 | iter (s : List UInt8) (pos : Nat)
 deriving Inhabited
def u8first (b : Nat) : Nat := if b < 128 then 240 else if b < 194 then 241 else if b < 224 then 2 else if b = 224 then 19 else if b = 237 then 35 else if b < 240 then 3 else if b = 240 then 52 else if b < 244 then 4 else if b = 244 then 68 else 241
def u8lo (i : Nat) : Nat := if i = 1 then 160 else if i = 3 then 144 else if i < 5 then 128 else 0
def u8hi (i : Nat) : Nat := if i = 2 then 159 else if i = 4 then 143 else if i < 5 then 191 else 0
def tabZ (k : Nat) : List Int := if k = 0 then (List.range 256).map fun b=>(u8first b : Int) else (List.range 16).flatMap fun i=>[(u8lo i : Int),(u8hi i : Int)]
def tabL (k : Nat) : List MV := (tabZ k).map (.int .u8)
structure DS where
 V : List (Nat × MV)
 T : List (Nat × MV)
 O : List (Nat × Obj)
 nx : Nat
def look {α : Type} : List (Nat × α)→Nat→Option α
 | [],_=>none
 | (k,v) :: l,n=>if k = n then some v else look l n
def put {α : Type} (l : List (Nat × α)) (n : Nat) (x : α) : List (Nat × α) := (n,x) :: l
inductive X where
 | t (n : Nat)
 | v (n : Nat)
 | c (x : MV)
 deriving Inhabited
def DS.rd (st : DS) : X→MV
 | .t n=>(look st.T n).getD .undef
 | .v n=>(look st.V n).getD .undef
 | .c x=>x
inductive FK where
 | int | bool | str
 deriving Inhabited
inductive EqK where
 | bool | slice | ptr | iface | fn | struct (ks : List FK)
 deriving Inhabited
inductive MOp where
 | mv (x : X)
 | pick (c a b : X)
 | box (x : X)
 | alloc (zero : List MV)
 | build (zero : List MV) (parts : List (Nat × Nat × X))
 | bslB (len : Nat) (parts : List (Nat × X))
 | bslE (s : Nat) (zero : MV) (len : Nat) (parts : List (Nat × X))
 | bslF (s : Nat) (zero : MV) (len : Nat) (parts : List (Nat × X))
 | load (agg : Bool) (size : Nat) (x : X)
 | store (size : Nat) (a v : X)
 | bin (op : BinOp) (x y : X)
 | eqs (k : EqK) (neq : Bool) (x y : X)
 | un (op : UnOp) (x : X)
 | conv (k : IntKind) (x : X)
 | same (x : X)
 | s2b (x : X)
 | b2s (x : X)
 | mark (x : X)
 | rng (x : X)
 | nxt (x : X)
 | i2s (x : X)
 | nilck (x : X)
 | bad
 | fad (off : Nat) (x : X)
 | fld (agg : Bool) (off size : Nat) (x : X)
 | iad (s : Nat) (x i : X)
 | aad (s len : Nat) (x i : X)
 | idxS (x i : X)
 | idxA (agg : Bool) (s len : Nat) (x i : X)
 | slc (str : Bool) (s : Nat) (x : X) (lo hi : Option X)
 | ext (i : Nat) (x : X)
 | call (f : FuncId) (args : List X)
 | callv (f : X) (args : List X)
 | callh (f : FuncId) (args : List X)
 | callvh (f : X) (args : List X)
 | inv (h : Bool) (tbl : List (Nat × FuncId)) (x : X) (args : List X)
 | len (str : Bool) (x : X)
 | app (bytes : Bool) (s w : Nat) (dst src : X)
 | appZ (s w : Nat) (zero : MV) (dst n : X)
 | mkfn (f : FuncId) (caps : List X)
 | mkif (t : TypeId) (x : X)
 | mksB (len cap : X)
 | mksE (s w : Nat) (zero : MV) (len cap : X)
 | minmax (mx : Bool) (xs : List X)
 | copyB (dst src : X)
 | cutF (s : Nat) (x hi mx : X)
 deriving Inhabited
structure MOper where
 dst : Option X
 op : MOp
 guard : Option (X × Bool) := none
 deriving Inhabited
inductive KMode where
 | plain | ownB | ownE (s : Nat) | inh
 deriving Inhabited
inductive PK where
 | other | byt | el (s : Nat) | ownB | ownE (s : Nat) | ref | full (s : Nat)
 deriving Inhabited
inductive MCode where
 | skip
 | rg (ops : List MOper)
 | rgd (ops : List MOper) (pre : List (List Nat))
 | seq (a b : MCode)
 | cond (c : X) (a b : MCode)
 | block (id : Nat) (b : MCode)
 | loop (keep : List (Nat × KMode)) (b : MCode)
 | exit (id : Nat)
 | scope (b : MCode)
 | ret
 | bad
 deriving Inhabited
abbrev oT (n : Nat) (op : MOp) : MOper := ⟨some (.t n),op,none⟩
abbrev oV (n : Nat) (op : MOp) : MOper := ⟨some (.v n),op,none⟩
abbrev oN (op : MOp) : MOper := ⟨none,op,none⟩
def DS.wr (st : DS) (d : Option X) (v : MV) : DS :=
 match d with
 | some (.t n)=>{ st with T := put st.T n v }
 | some (.v n)=>{ st with V := put st.V n v }
 | _=>st
def MV.pureHead : MV→Bool
 | .own _ _ | .ptr _ _ | .eptr _ _ _ _ | .fby _ | .fel _ _ | .undef | .tup _=>false
 | .fn _ l=>l.isEmpty
 | _=>true
def lend : MV→DS→Option (MV × DS)
 | .own o n,st =>
  match look st.O o with
  | some (.byt l _)=>if l.length = n then some (.bs l,{ st with O := put st.O o (.byt l true) }) else none
  | some (.el s l _)=>if l.length = n then some (.sl s l,{ st with O := put st.O o (.el s l true) }) else none
  | _=>none
 | .ptr _ _,_=>none
 | .eptr _ _ _ _,_=>none
 | .fby _,_=>none
 | .fel _ _,_=>none
 | .undef,_=>none
 | .tup _,_=>none
 | .fn f caps,st=>if caps.all MV.pureHead then some (.fn f caps,st) else none
 | v,st=>some (v,st)
def lends : List MV→DS→Option (List MV × DS)
 | [],st=>some ([],st)
 | v :: r,st =>
  match lend v st with
  | some (v',st1) =>
   match lends r st1 with
   | some (r',st2)=>some (v' :: r',st2)
   | none=>none
  | none=>none
def setCells : List MV→Nat→List MV→List MV
 | l,_,[]=>l
 | l,i,v :: r=>setCells (l.set i v) (i + 1) r
def placeAll (st : DS) : List MV→List (Nat × Nat × X)→Option (List MV × DS)
 | l,[]=>some (l,st)
 | l,(off,size,x) :: r =>
  match lend (st.rd x) st with
  | some (v,st1)=>if v.cells.length = size ∧ off + size ≤ l.length then placeAll st1 (setCells l off v.cells) r else none
  | none=>none
def asByte : MV→Option UInt8
 | .int .u8 n=>some (UInt8.ofNat n.toNat)
 | _=>none
def binI (op : BinOp) (k : IntKind) (a b : Int) : Option MV :=
 match op with
 | .add=>some (.int k (k.wrap (a + b)))
 | .sub=>some (.int k (k.wrap (a - b)))
 | .mul=>some (.int k (k.wrap (a * b)))
 | .quo=>if b = 0 then none else some (.int k (k.wrap (a.tdiv b)))
 | .rem=>if b = 0 then none else some (.int k (a.tmod b))
 | .and=>some (.int k (k.wrap (BitVec.ofInt k.bits a &&& BitVec.ofInt k.bits b).toNat))
 | .or=>some (.int k (k.wrap (BitVec.ofInt k.bits a ||| BitVec.ofInt k.bits b).toNat))
 | .xor=>some (.int k (k.wrap (BitVec.ofInt k.bits a ^^^ BitVec.ofInt k.bits b).toNat))
 | .andNot=>some (.int k (k.wrap (BitVec.ofInt k.bits a &&& ~~~ BitVec.ofInt k.bits b).toNat))
 | .eql=>some (.bool (a == b))
 | .neq=>some (.bool (a != b))
 | .lss=>some (.bool (decide (a < b)))
 | .leq=>some (.bool (decide (a ≤ b)))
 | .gtr=>some (.bool (decide (b < a)))
 | .geq=>some (.bool (decide (b ≤ a)))
 | _=>none
def shiftI (op : BinOp) (k : IntKind) (a b : Int) : Option MV :=
 if b < 0 then none
 else match op with
  | .shl=>some (.int k (k.wrap (a * 2 ^ (min b.toNat k.bits))))
  | .shr=>some (.int k (a.fdiv (2 ^ (min b.toNat k.bits))))
  | _=>none
def lessB : List UInt8→List UInt8→Bool
 | _,[]=>false
 | [],_ :: _=>true
 | a :: x,b :: y=>decide (a < b) || (a == b && lessB x y)
def binS (op : BinOp) (a b : List UInt8) : Option MV :=
 match op with
 | .add=>if a.length + b.length < 2 ^ 62 then some (.str (a ++ b)) else none
 | .eql=>some (.bool (a == b))
 | .neq=>some (.bool (!(a == b)))
 | .lss=>some (.bool (lessB a b))
 | .leq=>some (.bool (lessB a b || a == b))
 | .gtr=>some (.bool (!(lessB a b || a == b)))
 | .geq=>some (.bool (!lessB a b))
 | _=>none
def isShift : BinOp→Bool
 | .shl | .shr=>true
 | _=>false
def binV (op : BinOp) (a b : MV) : Option MV :=
 match a,b with
 | .int k x,.int k' y=>if isShift op then shiftI op k x y else if k = k' then binI op k x y else none
 | .str x,.str y=>binS op x y
 | _,_=>none
def eqCells : List FK→List MV→List MV→Option Bool
 | [],[],[]=>some true
 | .int :: ks,.int k a :: x,.int k' b :: y=>if k = k' then (eqCells ks x y).map (fun r=>a == b && r) else none
 | .bool :: ks,.bool a :: x,.bool b :: y=>(eqCells ks x y).map (fun r=>a == b && r)
 | .str :: ks,.str a :: x,.str b :: y=>(eqCells ks x y).map (fun r=>a == b && r)
 | _,_,_=>none
def eqV (n : Nat→Nat→Bool) : EqK→MV→MV→Option Bool
 | .bool,.bool a,.bool b=>some (a == b)
 | .iface,.nilif,.nilif=>some true
 | .iface,.nilif,.iface _ _=>some false
 | .iface,.iface _ _,.nilif=>some false
 | .slice,.nilsl,.nilsl=>some true
 | .slice,.bs (_ :: _),.nilsl=>some false
 | .slice,.sl _ (_ :: _),.nilsl=>some false
 | .slice,.own o (m + 1),.nilsl=>if n o (m + 1) then some false else none
 | .ptr,.nilptr,.nilptr=>some true
 | .ptr,.cptr _,.nilptr=>some false
 | .fn,.nilfn,.nilfn=>some true
 | .fn,.fn _ _,.nilfn=>some false
 | .struct ks,.agg a,.agg b=>eqCells ks a b
 | _,_,_=>none
def unV (op : UnOp) (a : MV) : Option MV :=
 match op,a with
 | .not,.bool b=>some (.bool (!b))
 | .neg,.int k n=>some (.int k (k.wrap (0 - n)))
 | .xor,.int k n=>some (.int k (k.wrap (BitVec.ofInt k.bits (if k.signed then -1 else k.max) ^^^ BitVec.ofInt k.bits n).toNat))
 | _,_=>none
def loadCells (agg : Bool) (size : Nat) (l : List MV) (j : Nat) : Option MV :=
 if agg then (if j + size ≤ l.length then some (.agg ((l.drop j).take size)) else none) else l[j]?
def MV.fit : MV→Bool
 | .undef | .tup _ | .fby _ | .fel _ _ | .eptr _ _ _ _=>false
 | _=>true
def loadV (agg : Bool) (size : Nat) (p : MV) (st : DS) : Option (MV × DS) :=
 match p with
 | .ptr o j =>
  match look st.O o with
  | some (.cells l) =>
   if agg then
    if j + size ≤ l.length then
     match lends ((l.drop j).take size) st with
     | some (r,st1)=>some (.agg r,st1)
     | none=>none
    else none
   else match l[j]? with
    | some v=>some (v,st)
    | none=>none
  | _=>none
 | .eptr o i j n =>
  match look st.O o with
  | some (.el _ l _) =>
   if l.length = n then match l[i]? with
    | some e=>match loadCells agg size e.cells j with
     | some v=>some (v,st)
     | none=>none
    | none=>none
   else none
  | some (.byt l _) =>
   if l.length = n ∧ j = 0 ∧ agg = false then match l[i]? with
    | some b=>some (.int .u8 b.toNat,st)
    | none=>none
   else none
  | _=>none
 | .cptr l=>match loadCells agg size l 0 with
  | some v=>some (v,st)
  | none=>none
 | _=>none
def storeV (size : Nat) (p v : MV) (st : DS) : Option (MV × DS) :=
 match p with
 | .ptr o j =>
  match look st.O o with
  | some (.cells l) =>
   if v.fit = true ∧ v.cells.length = size ∧ j + size ≤ l.length then some (.undef,{ st with O := put st.O o (.cells (setCells l j v.cells)) }) else none
  | _=>none
 | .eptr o i j n =>
  match lend v st with
  | some (v',st1) =>
   match look st1.O o with
   | some (.el s l false) =>
    match l[i]? with
    | some e =>
     if l.length = n ∧ v'.cells.length = size ∧ j + size ≤ s ∧ 0 < size then
      some (.undef,{ st1 with O := put st1.O o (.el s (l.set i (if s = 1 then v' else .agg (setCells e.cells j v'.cells))) false) })
     else none
    | none=>none
   | some (.byt l false) =>
    match asByte v' with
    | some b=>if l.length = n ∧ i < n ∧ j = 0 ∧ size = 1 then some (.undef,{ st1 with O := put st1.O o (.byt (l.set i b) false) }) else none
    | none=>none
   | _=>none
  | none=>none
 | _=>none
def live (o n : Nat) (st : DS) : Bool :=
 match look st.O o with
 | some (.byt l _)=>decide (l.length = n)
 | some (.el _ l _)=>decide (l.length = n)
 | _=>false
def liveS (o n s : Nat) (st : DS) : Bool :=
 match look st.O o with
 | some (.byt l _)=>decide (l.length = n ∧ s = 1)
 | some (.el s' l _)=>decide (l.length = n ∧ s' = s)
 | _=>false
def indexV (s : Nat) (x i : MV) (st : DS) : Option MV :=
 match i with
 | .int _ i =>
  match x with
  | .own o n=>if 0 ≤ i ∧ i < n ∧ liveS o n s st = true then some (.eptr o i.toNat 0 n) else none
  | .bs l=>if 0 ≤ i ∧ i < l.length ∧ s = 1 then (l[i.toNat]?).map (fun b=>.cptr [.int .u8 b.toNat]) else none
  | .sl s' l=>if 0 ≤ i ∧ i < l.length ∧ s' = s then (l[i.toNat]?).map (fun e=>.cptr e.cells) else none
  | .fsl s' l=>if 0 ≤ i ∧ i < l.length ∧ s' = s then (l[i.toNat]?).map (fun e=>.cptr e.cells) else none
  | _=>none
 | _=>none
def liveC (o : Nat) (st : DS) : Bool :=
 match look st.O o with
 | some (.cells _)=>true
 | _=>false
def offV (off : Nat) (x : MV) (st : DS) : Option MV :=
 match x with
 | .ptr o j=>if liveC o st = true then some (.ptr o (j + off)) else none
 | .eptr o i j n=>if live o n st = true then some (.eptr o i (j + off) n) else none
 | .cptr l=>if off ≤ l.length then some (.cptr (l.drop off)) else none
 | _=>none
def aindexV (s len : Nat) (x i : MV) (st : DS) : Option MV :=
 match i with
 | .int _ i=>if 0 ≤ i ∧ i < len then offV (i.toNat * s) x st else none
 | _=>none
def fieldV (off : Nat) (x : MV) (st : DS) : Option MV := offV off x st
def cut {α : Type} (l : List α) (lo hi : Option MV) : Option (List α) :=
 match (match hi with | none=>some (l.length : Int) | some (.int _ h)=>some h | _=>none),(match lo with | none=>some 0 | some (.int _ h)=>some h | _=>none) with
 | some h,some a=>if 0 ≤ a ∧ a ≤ h ∧ h ≤ l.length then some ((l.drop a.toNat).take (h.toNat - a.toNat)) else none
 | _,_=>none
def sliceV (str : Bool) (s : Nat) (x : MV) (lo hi : Option MV) (st : DS) : Option (MV × DS) :=
 match str,x with
 | true,.str l=>match cut l lo hi with | some r=>some (.str r,st) | none=>none
 | false,.bs l=>if s = 1 then match cut l lo hi with | some r=>some (.bs r,st) | none=>none else none
 | false,.sl s' l=>if s' = s then match cut l lo hi with | some r=>some (.sl s r,st) | none=>none else none
 | false,.own o n =>
  match lend (.own o n) st with
  | some (.bs l,st1)=>if s = 1 then match cut l lo hi with | some r=>some (.bs r,st1) | none=>none else none
  | some (.sl s' l,st1)=>if s' = s then match cut l lo hi with | some r=>some (.sl s r,st1) | none=>none else none
  | _=>none
 | false,.nilsl=>match cut ([] : List MV) lo hi with | some _=>some (.nilsl,st) | none=>none
 | _,_=>none
def sliceF (s : Nat) (x h m : MV) (st : DS) : Option (MV × DS) :=
 match sliceV false s x none none st with
 | some (.sl _ l,st1)=>match h,m with
  | .int _ h,.int _ m=>if h = l.length ∧ m = l.length then some (.fsl s l,st1) else none
  | _,_=>none
 | some (.bs l,st1)=>match h,m with
  | .int _ h,.int _ m=>if h = l.length ∧ m = l.length then some (.bs l,st1) else none
  | _,_=>none
 | _=>none
def lenV (str : Bool) (x : MV) (st : DS) : Option MV :=
 match str,x with
 | true,.str s=>some (.int .i64 s.length)
 | false,.bs s=>some (.int .i64 s.length)
 | false,.sl _ s=>some (.int .i64 s.length)
 | false,.fsl _ s=>some (.int .i64 s.length)
 | false,.nilsl=>some (.int .i64 0)
 | false,.own o n=>if live o n st = true then some (.int .i64 n) else none
 | _,_=>none
def bytesOf (x : MV) (st : DS) : Option (List UInt8) :=
 match x with
 | .str s=>some s
 | .bs s=>some s
 | .nilsl=>some []
 | .own o n=>match look st.O o with
  | some (.byt l _)=>if l.length = n then some l else none
  | _=>none
 | _=>none
def elemsOf (s : Nat) (x : MV) (st : DS) : Option (List MV) :=
 match x with
 | .sl s' l=>if s' = s then some l else none
 | .fsl s' l=>if s' = s then some l else none
 | .nilsl=>some []
 | .own o n=>match look st.O o with
  | some (.el s' l _)=>if l.length = n ∧ s' = s then some l else none
  | _=>none
 | _=>none
def drop {α : Type} : List (Nat × α)→Nat→List (Nat × α)
 | [],_=>[]
 | (k,v) :: l,n=>if k = n then drop l n else (k,v) :: drop l n
def appB (nm w : Nat) (d s : MV) (st : DS) : Option (MV × DS) :=
 match bytesOf s st with
 | none=>none
 | some xs =>
  match d with
  | .nilsl=>if xs.length * w ≤ 2 ^ 47 then some (.own nm xs.length,{ st with O := put st.O nm (.byt xs false) }) else none
  | .own o n =>
   match look st.O o with
   | some (.byt l b) =>
    if l.length = n ∧ (l.length + xs.length) * w ≤ 2 ^ 47 then some (.own nm (l.length + xs.length),{ st with O := put (drop st.O o) nm (.byt (l ++ xs) b) }) else none
   | _=>none
  | _=>none
def appE (nm s w : Nat) (d x : MV) (st : DS) : Option (MV × DS) :=
 match elemsOf s x st with
 | none=>none
 | some xs =>
  match d with
  | .nilsl=>if xs.length * w ≤ 2 ^ 47 then some (.own nm xs.length,{ st with O := put st.O nm (.el s xs false) }) else none
  | .own o n =>
   match look st.O o with
   | some (.el s' l b) =>
    if l.length = n ∧ s' = s ∧ (l.length + xs.length) * w ≤ 2 ^ 47 then some (.own nm (l.length + xs.length),{ st with O := put (drop st.O o) nm (.el s (l ++ xs) b) }) else none
   | _=>none
  | .fsl s' l=>if s' = s ∧ 0 < xs.length ∧ (l.length + xs.length) * w ≤ 2 ^ 47 then some (.own nm (l.length + xs.length),{ st with O := put st.O nm (.el s (l ++ xs) false) }) else none
  | _=>none
def inst (nm : Nat) (v : MV) (st : DS) : MV × DS :=
 match v with
 | .fby l=>(.own nm l.length,{ st with O := put st.O nm (.byt l false) })
 | .fel s l=>(.own nm l.length,{ st with O := put st.O nm (.el s l false) })
 | v=>(v,st)
def insts : Nat→List MV→DS→List MV × DS
 | _,[],st=>([],st)
 | nm,v :: r,st=>let (v',st1) := inst nm v st; let (r',st2) := insts (nm + 1) r st1; (v' :: r',st2)
def instR (nm : Nat) (v : MV) (st : DS) : MV × DS :=
 match v with
 | .tup l=>let (l',st1) := insts nm l st; (.tup l',st1)
 | v=>inst nm v st
def minmaxV (mx : Bool) (a b : MV) : Option MV :=
 match a,b with
 | .int k x,.int k' y=>if k = k' then some (.int k (if mx then (if y > x then y else x) else (if y < x then y else x))) else none
 | _,_=>none
def MV.width : MV→Nat
 | .tup l=>l.length
 | _=>1
structure CallT where
 p : FuncId→List MV→Option MV
 h : FuncId→List MV→List Obj→Option (MV × List (Option Obj))
def dCall (C : CallT) (nm : Nat) (f : FuncId) (args : List MV) (st : DS) : Option (MV × DS) :=
 match lends args st with
 | some (as,st1) =>
  match C.p f as with
  | some r=>if r.width ≤ 4 then some (instR nm r st1) else none
  | none=>none
 | none=>none
def MV.names : MV→List Nat
 | .own o _=>[o]
 | .ptr o _=>[o]
 | .fn _ caps=>caps.flatMap fun | .ptr o _=>[o] | .own o _=>[o] | _=>[]
 | _=>[]
def Obj.names : Obj→List Nat
 | .cells l=>l.flatMap MV.names
 | _=>[]
def has : List Nat→Nat→Bool
 | [],_=>false
 | a :: l,o=>if a = o then true else has l o
def nub : List Nat→List Nat→List Nat
 | acc,[]=>acc.reverse
 | acc,a :: l=>if has acc a then nub acc l else nub (a :: acc) l
def place : List Nat→Nat→Nat→Option Nat
 | [],_,_=>none
 | a :: l,o,i=>if a = o then some i else place l o (i + 1)
def nameOf (ns : List Nat) (o : Nat) : Nat := (place ns o 0).getD ns.length
def mapRef (f : Nat→Nat) : MV→MV
 | .own o n=>.own (f o) n
 | .ptr o j=>.ptr (f o) j
 | .eptr _ _ _ _=>.undef
 | .tup _=>.undef
 | .fby _=>.undef
 | .fel _ _=>.undef
 | .fn g caps=>if caps.all MV.pureHead then .fn g caps else .undef
 | v=>v
def mapV (f : Nat→Nat) : MV→MV
 | .fn g caps=>.fn g (caps.map (mapRef f))
 | v=>mapRef f v
def mapObj (f : Nat→Nat) : Obj→Obj
 | .cells l=>.cells (l.map (mapV f))
 | o=>o
def mapR (f : Nat→Nat) : MV→MV
 | .tup l=>.tup (l.map (mapV f))
 | v=>mapV f v
abbrev ren (ns : List Nat) : MV→MV := mapV (nameOf ns)
abbrev renObj (ns : List Nat) : Obj→Obj := mapObj (nameOf ns)
def inner (O : List (Nat × Obj)) (o : Nat) : List Nat := match look O o with
 | some x=>x.names
 | none=>[]
def reach (O : List (Nat × Obj)) : Nat→List Nat→List Nat
 | 0,l=>l
 | n + 1,l=>reach O n (nub [] (l ++ l.flatMap (inner O)))
def objsOf (O : List (Nat × Obj)) : List Nat→Option (List Obj)
 | []=>some []
 | o :: r=>match look O o,objsOf O r with
  | some x,some l=>some (x :: l)
  | _,_=>none
def nameB (ns : List Nat) (nm i : Nat) : Nat := match ns[i]? with
 | some o=>o
 | none=>nm + (i - ns.length)
def putBack (f : Nat→Nat) : Nat→List (Option Obj)→List (Nat × Obj)→List (Nat × Obj)
 | _,[],O=>O
 | i,some x :: r,O=>putBack f (i + 1) r (put O (f i) (mapObj f x))
 | i,none :: r,O=>putBack f (i + 1) r (drop O (f i))
def shared (vs : List MV) (st : DS) : List Nat := reach st.O 5 (nub [] (vs.flatMap MV.names))
def dCallH (C : CallT) (nm : Nat) (f : FuncId) (vs : List MV) (st : DS) : Option (MV × DS) :=
 match objsOf st.O (shared vs st) with
 | some objs =>
  match C.h f (vs.map (ren (shared vs st))) (objs.map (renObj (shared vs st))) with
  | some (r,L) =>
   if (shared vs st).length ≤ L.length ∧ L.length < (shared vs st).length + 4 then
    some (mapR (nameB (shared vs st) nm) r,{ st with O := putBack (nameB (shared vs st) nm) 0 L st.O })
   else none
  | none=>none
 | none=>none
def byteParts (st : DS) : List UInt8→List (Nat × X)→Option (List UInt8)
 | l,[]=>some l
 | l,(i,x) :: r=>match asByte (st.rd x) with
  | some b=>if i < l.length then byteParts st (l.set i b) r else none
  | none=>none
def elParts (s : Nat) (st : DS) : List MV→List (Nat × X)→Option (List MV × DS)
 | l,[]=>some (l,st)
 | l,(i,x) :: r=>match lend (st.rd x) st with
  | some (v,st1)=>if i < l.length ∧ v.cells.length = s then elParts s st1 (l.set i v) r else none
  | none=>none
def foldMM (mx : Bool) (st : DS) : MV→List X→Option MV
 | a,[]=>some a
 | a,x :: r=>match minmaxV mx a (st.rd x) with
  | some b=>foldMM mx st b r
  | none=>none
def dOp (C : CallT) (nm : Nat) (o : MOp) (st : DS) : Option (MV × DS) :=
 match o with
 | .mv x=>some (st.rd x,st)
 | .pick c a b=>match st.rd c with
  | .bool t=>some (if t then st.rd a else st.rd b,st)
  | _=>none
 | .box x=>if (st.rd x).fit then some (.ptr nm 0,{ st with O := put st.O nm (.cells (st.rd x).cells) }) else none
 | .alloc z=>some (.ptr nm 0,{ st with O := put st.O nm (.cells z) })
 | .build z ps=>match placeAll st z ps with
  | some (l,st1)=>some (.agg l,st1)
  | none=>none
 | .bslB n ps=>match byteParts st (List.replicate n 0) ps with
  | some l=>some (.own nm l.length,{ st with O := put st.O nm (.byt l false) })
  | none=>none
 | .bslE s z n ps=>match elParts s st (List.replicate n z) ps with
  | some (l,st1)=>some (.own nm l.length,{ st1 with O := put st1.O nm (.el s l false) })
  | none=>none
 | .bslF s z n ps=>match elParts s st (List.replicate n z) ps with
  | some (l,st1)=>some (.fsl s l,{ st1 with O := put (put st1.O nm (.el s l false)) nm (.el s l true) })
  | none=>none
 | .load agg size x=>loadV agg size (st.rd x) st
 | .store size a v=>storeV size (st.rd a) (st.rd v) st
 | .bin op x y=>match binV op (st.rd x) (st.rd y) with
  | some v=>some (v,st)
  | none=>none
 | .eqs k neq x y =>
  match eqV (fun o n=>live o n st) k (st.rd x) (st.rd y) with
  | some r=>some (.bool (if neq then !r else r),st)
  | none=>none
 | .un op x=>match unV op (st.rd x) with
  | some v=>some (v,st)
  | none=>none
 | .conv k x=>match st.rd x with
  | .int _ n=>some (.int k (k.wrap n),st)
  | _=>none
 | .same x=>match st.rd x with
  | .str s=>some (.str s,st)
  | _=>none
 | .s2b x=>match st.rd x with
  | .str s=>some (.own nm s.length,{ st with O := put st.O nm (.byt s false) })
  | _=>none
 | .b2s x=>match st.rd x with
  | .str _=>none
  | v=>match bytesOf v st with
   | some l=>some (.str l,st)
   | none=>none
 | .i2s x=>match st.rd x with
  | .int _ n=>if 0 ≤ n ∧ n < 128 then some (.str [UInt8.ofNat n.toNat],st) else none
  | _=>none
 | .bad=>none
 | .nilck x=>match st.rd x with
  | .ptr o j=>if liveC o st = true then some (.ptr o j,st) else none
  | .cptr l=>some (.cptr l,st)
  | .fn f caps=>some (.fn f caps,st)
  | _=>none
 | .rng x=>match st.rd x with
  | .str s=>some (.ptr nm 0,{ st with O := put st.O nm (.iter s 0) })
  | _=>none
 | .nxt x=>match st.rd x with
  | .ptr o 0=>match look st.O o with
   | some (.iter s pos) =>
    if pos < s.length then some (.tup [.bool true,.int .i64 pos,.int .i32 (Utf8.decode ⟨s.toArray⟩ pos).1],{ st with O := put st.O o (.iter s (pos + (Utf8.decode ⟨s.toArray⟩ pos).2)) })
    else some (.tup [.bool false],st)
   | _=>none
  | _=>none
 | .mark x=>match st.rd x with
  | .own o n=>match look st.O o with
   | some (.byt l _)=>if l.length = n ∧ 0 < n then some (.own o n,st) else none
   | _=>none
  | _=>none
 | .fad off x=>match fieldV off (st.rd x) st with
  | some v=>some (v,st)
  | none=>none
 | .fld agg off size x=>match st.rd x with
  | .agg l=>match loadCells agg size l off with
   | some v=>some (v,st)
   | none=>none
  | _=>none
 | .iad s x i=>match indexV s (st.rd x) (st.rd i) st with
  | some v=>some (v,st)
  | none=>none
 | .aad s n x i=>match aindexV s n (st.rd x) (st.rd i) st with
  | some v=>some (v,st)
  | none=>none
 | .idxS x i=>match st.rd x,st.rd i with
  | .str s,.int _ i=>if 0 ≤ i ∧ i < s.length then some (.int .u8 (s.getD i.toNat 0).toNat,st) else none
  | _,_=>none
 | .idxA agg s n x i=>match st.rd x,st.rd i with
  | .agg l,.int _ i=>if 0 ≤ i ∧ i < n then match loadCells agg s l (i.toNat * s) with
    | some v=>some (v,st)
    | none=>none
   else none
  | _,_=>none
 | .slc b s x lo hi=>sliceV b s (st.rd x) (lo.map st.rd) (hi.map st.rd) st
 | .ext i x=>match st.rd x with
  | .tup l=>match l[i]? with
   | some v=>some (v,st)
   | none=>none
  | _=>none
 | .call f args=>dCall C nm f (args.map st.rd) st
 | .callv f args=>match st.rd f with
  | .fn g caps=>dCall C nm g (args.map st.rd ++ caps) st
  | _=>none
 | .callh f args=>dCallH C nm f (args.map st.rd) st
 | .callvh f args=>match st.rd f with
  | .fn g caps=>dCallH C nm g (args.map st.rd ++ caps) st
  | _=>none
 | .inv h tbl x args=>match st.rd x with
  | .iface t v=>match (if v.pureHead then look tbl t else none) with
   | some g=>if h then dCallH C nm g (v :: args.map st.rd) st else dCall C nm g (v :: args.map st.rd) st
   | none=>none
  | _=>none
 | .len b x=>match lenV b (st.rd x) st with
  | some v=>some (v,st)
  | none=>none
 | .appZ s w z d x=>match st.rd x with
  | .int _ n=>if 0 ≤ n ∧ n < 2 ^ 47 then appE nm s w (st.rd d) (.sl s (List.replicate n.toNat z)) st else none
  | _=>none
 | .app bytes s w d x=>if bytes then appB nm w (st.rd d) (st.rd x) st else appE nm s w (st.rd d) (st.rd x) st
 | .mkfn f caps=>some (.fn f (caps.map st.rd),st)
 | .mkif t x=>match lend (st.rd x) st with
  | some (v,st1)=>some (.iface t v,st1)
  | none=>none
 | .mksB n c=>match st.rd n,st.rd c with
  | .int _ n,.int _ c=>if 0 ≤ n ∧ n ≤ c ∧ c ≤ 2 ^ 47 then some (.own nm n.toNat,{ st with O := put st.O nm (.byt (List.replicate n.toNat 0) false) }) else none
  | _,_=>none
 | .mksE s w z n c=>match st.rd n,st.rd c with
  | .int _ n,.int _ c=>if 0 ≤ n ∧ n ≤ c ∧ c * w ≤ 2 ^ 47 ∧ c ≤ 2 ^ 47 then some (.own nm n.toNat,{ st with O := put st.O nm (.el s (List.replicate n.toNat z) false) }) else none
  | _,_=>none
 | .minmax mx xs=>match xs with
  | []=>none
  | x :: r=>match foldMM mx st (st.rd x) r with
   | some v=>some (v,st)
   | none=>none
 | .copyB _ _=>none
 | .cutF s x h m=>sliceF s (st.rd x) (st.rd h) (st.rd m) st
def wanted (o : MOper) (st : DS) : Option Bool :=
 match o.guard with
 | none=>some true
 | some (x,want)=>match st.rd x with
  | .bool b=>some (b == want)
  | .tup _=>some false
  | _=>none
def dOper (C : CallT) (nm : Nat) (o : MOper) (st : DS) : Option DS :=
 match wanted o st with
 | some true=>match dOp C nm o.op st with
  | some (v,st1)=>some (st1.wr o.dst v)
  | none=>none
 | some false=>some (st.wr o.dst (.tup []))
 | none=>none
def dOps (C : CallT) : Nat→List MOper→DS→Option DS
 | _,[],st=>some st
 | nm,o :: os,st=>match dOper C nm o st with
  | some st1=>dOps C (nm + 4) os st1
  | none=>none
def dRegion (C : CallT) (ops : List MOper) (st : DS) : Option DS :=
 match dOps C st.nx ops st with
 | some st1=>some { st1 with T := [],nx := st.nx + 4 * ops.length }
 | none=>none
def newObjs (O : List (Nat × Obj)) (ns : List Nat) : Nat→List Nat→List (Nat × Obj)
 | _,[]=>[]
 | i,o :: r=>match look O o with
  | some x=>(i,renObj ns x) :: newObjs O ns (i + 1) r
  | none=>newObjs O ns (i + 1) r
def keepV (V : List (Nat × MV)) (ns : List Nat) : List (Nat × KMode)→Nat→List (Nat × Obj)→List (Nat × MV) × List (Nat × Obj) × Nat
 | [],nx,O=>([],O,nx)
 | (_,.inh) :: r,nx,O=>keepV V ns r nx O
 | (k,m) :: r,nx,O =>
  match m,(look V k).getD .undef with
  | .ownB,.nilsl=>let (V',O',nx') := keepV V ns r (nx + 1) (O ++ [(nx,.byt [] false)]); ((k,.own nx 0) :: V',O',nx')
  | .ownE s,.nilsl=>let (V',O',nx') := keepV V ns r (nx + 1) (O ++ [(nx,.el s [] false)]); ((k,.own nx 0) :: V',O',nx')
  | _,v=>let (V',O',nx') := keepV V ns r nx O; ((k,ren ns v) :: V',O',nx')
def inhOf : List (Nat × KMode)→Nat
 | []=>0
 | (k,.inh) :: _=>k
 | _ :: r=>inhOf r
def MCode.inhB (K : Nat) : MCode→Bool
 | .seq a b=>a.inhB K && b.inhB K
 | .cond _ a b=>a.inhB K && b.inhB K
 | .block _ b=>b.inhB K
 | .scope b=>b.inhB K
 | .loop keep b=>decide (inhOf keep = K) && b.inhB K
 | _=>true
def keptNames (st : DS) : List (Nat × KMode)→List Nat
 | []=>[]
 | (_,.inh) :: r=>keptNames st r
 | (k,_) :: r=>((look st.V k).getD .undef).names ++ keptNames st r
def liveNames (st : DS) (keep : List (Nat × KMode)) : List Nat := reach st.O 5 (nub [] (List.range (inhOf keep) ++ keptNames st keep))
def canon (keep : List (Nat × KMode)) (st : DS) : DS :=
 let ns := liveNames st keep
 let (V,O,nx) := keepV st.V ns keep (ns.length + 1) (newObjs st.O ns 0 ns)
 { V := V,T := [],O := O,nx := nx }
def cloGo : List (List Nat)→List (List Nat)→List (List Nat)
 | R,[]=>R
 | R,d :: l=>cloGo (R ++ [nub [] (d ++ d.flatMap fun k=>(R[k]?).getD [])]) l
def clo (l : List (List Nat)) : List (List Nat) := cloGo [] l
def MV.names2 : MV→List Nat
 | .eptr o _ _ _=>[o]
 | v=>v.names
def optX : Option X→List X
 | some x=>[x]
 | none=>[]
def MOp.xs : MOp→List X
 | .mv x | .box x | .un _ x | .conv _ x | .same x | .s2b x | .b2s x | .mark x | .rng x | .nxt x | .i2s x | .nilck x | .fad _ x | .fld _ _ _ x | .ext _ x | .len _ x | .mkif _ x | .load _ _ x=>[x]
 | .pick c a b=>[c,a,b]
 | .alloc _=>[]
 | .bad=>[]
 | .build _ ps=>ps.map (·.2.2)
 | .bslB _ ps=>ps.map (·.2)
 | .bslE _ _ _ ps=>ps.map (·.2)
 | .bslF _ _ _ ps=>ps.map (·.2)
 | .store _ a v=>[a,v]
 | .bin _ x y | .eqs _ _ x y | .iad _ x y | .aad _ _ x y | .idxS x y | .idxA _ _ _ x y | .app _ _ _ x y | .appZ _ _ _ x y | .mksB x y | .mksE _ _ _ x y | .copyB x y=>[x,y]
 | .slc _ _ x lo hi=>x :: (optX lo ++ optX hi)
 | .call _ args=>args
 | .callv f args=>f :: args
 | .callh _ args=>args
 | .callvh f args=>f :: args
 | .inv _ _ x args=>x :: args
 | .mkfn _ caps=>caps
 | .minmax _ xs=>xs
 | .cutF _ x h m=>[x,h,m]
def MOper.reads (o : MOper) : List X :=
 match o.guard with
 | some (x,_)=>x :: o.op.xs
 | none=>o.op.xs
def handed (o : MOp) (st : DS) : List MV :=
 match o with
 | .callh _ args=>args.map st.rd
 | .callvh f args=>match st.rd f with
  | .fn _ caps=>args.map st.rd ++ caps
  | _=>[]
 | .inv true _ x args=>match st.rd x with
  | .iface _ v=>v :: args.map st.rd
  | _=>[]
 | _=>[]
def MOp.nms (o : MOp) (st : DS) : List Nat :=
 match o with
 | .mv _=>[]
 | o=>o.xs.flatMap fun x=>(st.rd x).names2
def foot (o : MOp) (st : DS) : List Nat :=
 let n0 := o.nms st
 n0 ++ (n0.flatMap fun n=>match look st.O n with | some x=>x.names | none=>[]) ++ shared (handed o st) st
def loud (o : MOp) (st : DS) : List Nat :=
 match o with
 | .store _ a _=>(st.rd a).names2
 | .app _ _ _ d _=>(st.rd d).names2
 | .appZ _ _ _ d _=>(st.rd d).names2
 | .nxt x=>(st.rd x).names2
 | o=>shared (handed o st) st
def sameX : X→X→Bool
 | .t a,.t b=>decide (a = b)
 | .v a,.v b=>decide (a = b)
 | _,_=>false
structure Mark where
 i : Nat
 nm : Nat
 reads : List X
 dst : Option X
 F : List Nat
 W : List Nat
def noX (d : Option X) (l : List X) : Bool :=
 match d with
 | some x=>l.all fun y=>!sameX x y
 | none=>true
def Mark.apart1 (a b : Mark) : Bool :=
 noX a.dst (b.reads ++ optX b.dst) && (b.F.all fun o=>!(decide (a.nm ≤ o) && decide (o < a.nm + 4)) && !has a.W o)
def Mark.apart (a b : Mark) : Bool := a.apart1 b && b.apart1 a
def dDraw (C : CallT) (pre : Nat→List Nat) : Nat→Nat→List Mark→List MOper→DS→Option DS
 | _,_,_,[],st=>some st
 | i,nm,ms,o :: os,st =>
  let m : Mark := ⟨i,nm,o.reads,o.dst,foot o.op st,loud o.op st⟩
  if (ms.all fun k=>has (pre i) k.i || k.apart m) = true then
   match dOper C nm o st with
   | some st1=>dDraw C pre (i + 1) (nm + 4) (m :: ms) os st1
   | none=>none
  else none
def preOf (pre : List (List Nat)) (i : Nat) : List Nat := (pre[i]?).getD []
def dRegionD (C : CallT) (ops : List MOper) (pre : List (List Nat)) (st : DS) : Option DS :=
 match dDraw C (preOf pre) 0 st.nx [] ops st with
 | some st1=>some { st1 with T := [],nx := st.nx + 4 * ops.length }
 | none=>none
inductive Item where
 | code (c : MCode)
 | blk (id : Nat)
 | lp (keep : List (Nat × KMode)) (b : MCode)
def unwind (id : Nat) : List Item→Option (List Item)
 | []=>none
 | .blk i :: k=>if i = id then some k else unwind id k
 | _ :: k=>unwind id k
structure MFunc where
 /- how many values it is called with,at most -/
 nargs : Nat
 params : List PK
 /- slots of the results; cells: of what size,whether told as a whole -/
 results : List (Nat × Option (Bool × Nat) × PK)
 body : MCode
 /- how many objects of the caller's it is handed; none: it tells no references -/
 heap : Option Nat := none
 deriving Inhabited
def enter : Nat→List PK→List MV→DS→Option DS
 | _,[],[],st=>some st
 | i,p :: ps,v :: vs,st =>
  let v' := match p,v with
   | .byt,.nilsl=>.bs []
   | .el s,.nilsl=>.sl s []
   | .full s,.nilsl=>.fsl s []
   | _,v=>v
  let (x,st1) := inst i v' st
  enter (i + 1) ps vs { st1 with V := put st1.V i x,nx := i + 1 }
 | i,[],v :: vs,st=>let (x,st1) := inst i v st; enter (i + 1) [] vs { st1 with V := put st1.V i x,nx := i + 1 }
 | _,_ :: _,[],_=>none
def entry (m : MFunc) (args : List MV) : Option DS :=
 if args.length ≤ m.nargs ∧ m.heap = none then enter 0 m.params args ⟨[],[],[],0⟩ else none
def leaveOne (k : PK) (v : MV) (st : DS) : Option (MV × DS) :=
 match k,v with
 | .byt,.nilsl=>some (.bs [],st)
 | .el s,.nilsl=>some (.sl s [],st)
 | .ownB,.nilsl=>some (.fby [],st)
 | .ownE s,.nilsl=>some (.fel s [],st)
 | .ownB,.own o n=>match look st.O o with
  | some (.byt l false)=>if l.length = n then some (.fby l,{ st with O := drop st.O o }) else none
  | _=>none
 | .ownE s,.own o n=>match look st.O o with
  | some (.el s' l false)=>if l.length = n ∧ s' = s then some (.fel s l,{ st with O := drop st.O o }) else none
  | _=>none
 | _,v=>lend v st
def leave : List (Nat × Option (Bool × Nat) × PK)→DS→Option (List MV)
 | [],_=>some []
 | (n,c,k) :: r,st =>
  let v := (look st.V n).getD .undef
  match (match c with | none=>some (v,st) | some (agg,size)=>loadV agg size v st) with
  | some (x,st1)=>match leaveOne k x st1 with
   | some (y,st2)=>match leave r st2 with
    | some ys=>some (y :: ys)
    | none=>none
   | none=>none
  | none=>none
def convP (k : PK) (v : MV) : MV :=
 match k,v with
 | .byt,.nilsl=>.bs []
 | .el s,.nilsl=>.sl s []
 | .full s,.nilsl=>.fsl s []
 | _,v=>v
def enterV : Nat→List PK→List MV→List (Nat × MV)→Option (List (Nat × MV))
 | _,[],[],V=>some V
 | i,p :: ps,v :: vs,V=>enterV (i + 1) ps vs (put V i (convP p v))
 | i,[],v :: vs,V=>enterV (i + 1) [] vs (put V i v)
 | _,_ :: _,[],_=>none
def idx {α : Type} : Nat→List α→List (Nat × α)
 | _,[]=>[]
 | i,x :: r=>(i,x) :: idx (i + 1) r
def entryH (m : MFunc) (args : List MV) (L : List Obj) : Option DS :=
 if args.length ≤ m.nargs ∧ m.heap = some L.length then
  match enterV 0 m.params args [] with
  | some V=>some ⟨V,[],idx 0 L,L.length + 1⟩
  | none=>none
 else none
def leaveOneH (k : PK) (v : MV) (st : DS) : Option (MV × DS) :=
 match k with
 | .ref=>some (v,st)
 | .ownB=>none
 | .ownE _=>none
 | k=>leaveOne k v st
def leaveH : List (Nat × Option (Bool × Nat) × PK)→DS→Option (List MV × DS)
 | [],st=>some ([],st)
 | (n,c,k) :: r,st =>
  let v := (look st.V n).getD .undef
  match (match c with | none=>some (v,st) | some (agg,size)=>loadV agg size v st) with
  | some (x,st1)=>match leaveOneH k x st1 with
   | some (y,st2)=>match leaveH r st2 with
    | some (ys,st3)=>some (y :: ys,st3)
    | none=>none
   | none=>none
  | none=>none
def result : List MV→MV
 | [v]=>v
 | l=>.tup l
def exitNames (k : Nat) (rs : List MV) (st : DS) : List Nat := reach st.O 5 (nub [] (List.range k ++ rs.flatMap MV.names))
def exitH (k : Nat) (rs : List MV) (st : DS) : MV × List (Option Obj) :=
 (result (rs.map (ren (exitNames k rs st))),(exitNames k rs st).map fun o=>(look st.O o).map (renObj (exitNames k rs st)))
structure Prog where
 fn : FuncId→Option MFunc
 prim : FuncId→Option (List MV→Option MV)
mutual
def run (Q : Prog) : Nat→List Item→DS→Option DS
 | 0,_,_=>none
 | n + 1,k,st =>
  match k with
  | []=>some st
  | .blk _ :: k=>run Q n k st
  | .lp keep b :: k=>run Q n (.code b :: .lp keep b :: k) (canon keep st)
  | .code c :: k =>
   match c with
   | .skip=>run Q n k st
   | .rg ops=>match dRegion ⟨callF Q n,callH Q n⟩ ops st with
    | some st1=>run Q n k st1
    | none=>none
   | .rgd ops pre=>match dRegionD ⟨callF Q n,callH Q n⟩ ops pre st with
    | some st1=>run Q n k st1
    | none=>none
   | .seq a b=>run Q n (.code a :: .code b :: k) st
   | .cond c a b=>match st.rd c with
    | .bool t=>run Q n (.code (if t then a else b) :: k) st
    | _=>none
   | .block id b=>run Q n (.code b :: .blk id :: k) st
   | .loop keep b=>run Q n (.code b :: .lp keep b :: k) (canon keep st)
   | .exit id=>match unwind id k with
    | some k'=>run Q n k' st
    | none=>none
   | .scope b=>run Q n (.code b :: k) st
   | .ret=>some st
   | .bad=>none
def callF (Q : Prog) : Nat→FuncId→List MV→Option MV
 | 0,_,_=>none
 | n + 1,f,args =>
  match Q.prim f with
  | some g=>g args
  | none =>
   match Q.fn f with
   | none=>none
   | some m =>
    match entry m args with
    | none=>none
    | some st =>
     match run Q n [.code m.body] st with
     | none=>none
     | some st1=>match leave m.results st1 with
      | some l=>some (result l)
      | none=>none
def callH (Q : Prog) : Nat→FuncId→List MV→List Obj→Option (MV × List (Option Obj))
 | 0,_,_,_=>none
 | n + 1,f,args,L =>
  match Q.fn f with
  | none=>none
  | some m =>
   match entryH m args L with
   | none=>none
   | some st =>
    match run Q n [.code m.body] st with
    | none=>none
    | some st1=>match leaveH m.results st1 with
     | some (rs,st2)=>some (exitH L.length rs st2)
     | none=>none
end
abbrev tab (Q : Prog) (n : Nat) : CallT := ⟨callF Q n,callH Q n⟩
end Go.Mini
namespace Go.Mini
open Go
structure CLe (C C' : CallT) : Prop where
 p : ∀ f a r,C.p f a = some r→C'.p f a = some r
 h : ∀ f a L r,C.h f a L = some r→C'.h f a L = some r
theorem dCallH_mono {C C' : CallT} (h : CLe C C') {nm f args st r} (hr : dCallH C nm f args st = some r) : dCallH C' nm f args st = some r := by
 unfold dCallH at hr ⊢
 split at hr
 ·rename_i objs e
  split at hr
  ·rename_i q L hv; rw [h.h _ _ _ _ hv]; exact hr
  ·cases hr
 ·cases hr
theorem dCall_mono {C C' : CallT} (h : CLe C C') {nm f args st r} (hr : dCall C nm f args st = some r) : dCall C' nm f args st = some r := by
 unfold dCall at hr ⊢
 split at hr
 ·rename_i as st1 e
  split at hr
  ·rename_i v hv; rw [h.p _ _ _ hv]; exact hr
  ·cases hr
 ·cases hr
theorem dOp_mono {C C' : CallT} (h : CLe C C') {nm o st r} (hr : dOp C nm o st = some r) : dOp C' nm o st = some r := by
 cases o
 case call f args=>exact dCall_mono h hr
 case callv f args =>
  simp only [dOp] at hr ⊢
  split at hr
  ·exact dCall_mono h hr
  ·cases hr
 case callh f args=>exact dCallH_mono h hr
 case callvh f args =>
  simp only [dOp] at hr ⊢
  split at hr
  ·exact dCallH_mono h hr
  ·cases hr
 case inv b tbl x args =>
  simp only [dOp] at hr ⊢
  split at hr
  ·split at hr
   ·split at hr
    ·rename_i hb; rw [if_pos hb]; exact dCallH_mono h hr
    ·rename_i hb; rw [if_neg hb]; exact dCall_mono h hr
   ·cases hr
  ·cases hr
 all_goals exact hr
theorem dOper_mono {C C' : CallT} (h : CLe C C') {nm o st r} (hr : dOper C nm o st = some r) : dOper C' nm o st = some r := by
 unfold dOper at hr ⊢
 split at hr
 ·split at hr
  ·rename_i v st1 e; rw [dOp_mono h e]; exact hr
  ·cases hr
 ·exact hr
 ·cases hr
theorem dOps_mono {C C' : CallT} (h : CLe C C') : ∀ {ops nm st r},dOps C nm ops st = some r→dOps C' nm ops st = some r
 | [],_,_,_,hr=>hr
 | o :: os,nm,st,r,hr=>by
  unfold dOps at hr ⊢
  split at hr
  ·rename_i st1 e; rw [dOper_mono h e]; exact dOps_mono h hr
  ·cases hr
theorem dRegion_mono {C C' : CallT} (h : CLe C C') {ops st r} (hr : dRegion C ops st = some r) : dRegion C' ops st = some r := by
 unfold dRegion at hr ⊢
 split at hr
 ·rename_i st1 e; rw [dOps_mono h e]; exact hr
 ·cases hr
theorem dDraw_mono {C C' : CallT} (h : CLe C C') {pre} : ∀ {ops i nm ms st r},dDraw C pre i nm ms ops st = some r→dDraw C' pre i nm ms ops st = some r
 | [],_,_,_,_,_,hr=>hr
 | o :: os,i,nm,ms,st,r,hr=>by
  simp only [dDraw] at hr ⊢
  split at hr
  ·rename_i hc
   rw [if_pos hc]
   split at hr
   ·rename_i st1 e; rw [dOper_mono h e]; exact dDraw_mono h hr
   ·cases hr
  ·cases hr
theorem dRegionD_mono {C C' : CallT} (h : CLe C C') {ops pre st r} (hr : dRegionD C ops pre st = some r) : dRegionD C' ops pre st = some r := by
 unfold dRegionD at hr ⊢
 split at hr
 ·rename_i st1 e; rw [dDraw_mono h e]; exact hr
 ·cases hr
theorem mono1 (Q : Prog) : ∀ n,CLe (tab Q n) (tab Q (n + 1)) ∧ ∀ k st r,run Q n k st = some r→run Q (n + 1) k st = some r
 | 0=>⟨⟨fun f a r h=>by simp [callF] at h,fun f a L r h=>by simp [callH] at h⟩,fun k st r h=>by simp [run] at h⟩
 | n + 1=>by
  have ⟨hc,hr⟩ := mono1 Q n
  refine ⟨⟨?_,?_⟩,?_⟩
  ·intro f a r h
   have h : callF Q (n + 1) f a = some r := h
   show callF Q (n + 2) f a = some r
   unfold callF at h ⊢
   split at h
   ·exact h
   ·split at h
    ·cases h
    ·split at h
     ·cases h
     ·rename_i st e
      split at h
      ·cases h
      ·rename_i st1 e1
       rw [hr _ _ _ e1]; exact h
  ·intro f a L r h
   have h : callH Q (n + 1) f a L = some r := h
   show callH Q (n + 2) f a L = some r
   unfold callH at h ⊢
   split at h
   ·cases h
   ·split at h
    ·cases h
    ·rename_i st e
     split at h
     ·cases h
     ·rename_i st1 e1
      rw [hr _ _ _ e1]; exact h
  ·intro k st r h
   unfold run at h ⊢
   split at h
   ·exact h
   ·exact hr _ _ _ h
   ·exact hr _ _ _ h
   ·split at h
    ·exact hr _ _ _ h
    ·split at h
     ·rename_i st1 e; rw [dRegion_mono hc e]; exact hr _ _ _ h
     ·cases h
    ·split at h
     ·rename_i st1 e; rw [dRegionD_mono hc e]; exact hr _ _ _ h
     ·cases h
    ·exact hr _ _ _ h
    ·split at h
     ·rename_i t e; exact hr _ _ _ h
     ·cases h
    ·exact hr _ _ _ h
    ·exact hr _ _ _ h
    ·split at h
     ·rename_i k' e; exact hr _ _ _ h
     ·cases h
    ·exact hr _ _ _ h
    ·exact h
    ·cases h
theorem call_le (Q : Prog) {n m : Nat} (h : n ≤ m) : CLe (tab Q n) (tab Q m) := by
 induction h with
 | refl=>exact ⟨fun _ _ _ h=>h,fun _ _ _ _ h=>h⟩
 | step _ ih=>exact ⟨fun f a r h=>(mono1 Q _).1.p f a r (ih.p f a r h),fun f a L r h=>(mono1 Q _).1.h f a L r (ih.h f a L r h)⟩
theorem run_le (Q : Prog) {n m : Nat} (h : n ≤ m) {k st r} (hr : run Q n k st = some r) : run Q m k st = some r := by
 induction h with
 | refl=>exact hr
 | step _ ih=>exact (mono1 Q _).2 _ _ _ ih
open Classical in
noncomputable def Run (Q : Prog) (k : List Item) (st : DS) : Option DS :=
 if h : ∃ r,∃ n,run Q n k st = some r then some h.choose else none
open Classical in
noncomputable def Call (Q : Prog) (f : FuncId) (args : List MV) : Option MV :=
 if h : ∃ r,∃ n,callF Q n f args = some r then some h.choose else none
open Classical in
noncomputable def CallH (Q : Prog) (f : FuncId) (args : List MV) (L : List Obj) : Option (MV × List (Option Obj)) :=
 if h : ∃ r,∃ n,callH Q n f args L = some r then some h.choose else none
theorem Run_iff {Q : Prog} {k st r} : Run Q k st = some r ↔ ∃ n,run Q n k st = some r := by
 unfold Run
 split
 ·rename_i h
  constructor
  ·intro e; obtain rfl := Option.some.inj e; exact h.choose_spec
  ·rintro ⟨n,hn⟩
   obtain ⟨m,hm⟩ := h.choose_spec
   have := (run_le Q (Nat.le_max_left n m) hn).symm.trans (run_le Q (Nat.le_max_right n m) hm)
   rw [this]
 ·rename_i h
  exact ⟨fun e=>(by cases e),fun ⟨n,hn⟩=>(h ⟨r,n,hn⟩).elim⟩
theorem Call_iff {Q : Prog} {f args r} : Call Q f args = some r ↔ ∃ n,callF Q n f args = some r := by
 unfold Call
 split
 ·rename_i h
  constructor
  ·intro e; obtain rfl := Option.some.inj e; exact h.choose_spec
  ·rintro ⟨n,hn⟩
   obtain ⟨m,hm⟩ := h.choose_spec
   have := ((call_le Q (Nat.le_max_left n m)).p _ _ _ hn).symm.trans ((call_le Q (Nat.le_max_right n m)).p _ _ _ hm)
   rw [this]
 ·rename_i h
  exact ⟨fun e=>(by cases e),fun ⟨n,hn⟩=>(h ⟨r,n,hn⟩).elim⟩
theorem CallH_iff {Q : Prog} {f args L r} : CallH Q f args L = some r ↔ ∃ n,callH Q n f args L = some r := by
 unfold CallH
 split
 ·rename_i h
  constructor
  ·intro e; obtain rfl := Option.some.inj e; exact h.choose_spec
  ·rintro ⟨n,hn⟩
   obtain ⟨m,hm⟩ := h.choose_spec
   have := ((call_le Q (Nat.le_max_left n m)).h _ _ _ _ hn).symm.trans ((call_le Q (Nat.le_max_right n m)).h _ _ _ _ hm)
   rw [this]
 ·rename_i h
  exact ⟨fun e=>(by cases e),fun ⟨n,hn⟩=>(h ⟨r,n,hn⟩).elim⟩
noncomputable abbrev Tab (Q : Prog) : CallT := ⟨Call Q,CallH Q⟩
theorem callF_le_Call (Q : Prog) (n : Nat) : CLe (tab Q n) (Tab Q) := ⟨fun _ _ _ h=>Call_iff.2 ⟨n,h⟩,fun _ _ _ _ h=>CallH_iff.2 ⟨n,h⟩⟩
theorem opt_ext {α : Type} {a b : Option α} (h : ∀ r,a = some r ↔ b = some r) : a = b := by
 cases a with
 | none=>cases b with
  | none=>rfl
  | some r=>exact absurd ((h r).2 rfl) (by simp)
 | some r=>exact ((h r).1 rfl).symm
theorem dCall_fin (Q : Prog) {nm f args st r} (h : dCall (Tab Q) nm f args st = some r) : ∃ n,dCall (tab Q n) nm f args st = some r := by
 unfold dCall at h
 split at h
 ·rename_i as st1 e
  split at h
  ·rename_i v hv
   obtain ⟨n,hn⟩ := Call_iff.1 hv
   exact ⟨n,by unfold dCall; rw [e]; simp only [hn]; exact h⟩
  ·cases h
 ·cases h
theorem dCallH_fin (Q : Prog) {nm f args st r} (h : dCallH (Tab Q) nm f args st = some r) : ∃ n,dCallH (tab Q n) nm f args st = some r := by
 unfold dCallH at h
 split at h
 ·rename_i objs e
  split at h
  ·rename_i q L hv
   obtain ⟨n,hn⟩ := CallH_iff.1 hv
   exact ⟨n,by unfold dCallH; rw [e]; simp only [hn]; exact h⟩
  ·cases h
 ·cases h
theorem dOp_fin (Q : Prog) {nm o st r} (h : dOp (Tab Q) nm o st = some r) : ∃ n,dOp (tab Q n) nm o st = some r := by
 cases o
 case call f args=>exact dCall_fin Q h
 case callv f args =>
  simp only [dOp] at h
  split at h
  ·rename_i g caps e
   obtain ⟨n,hn⟩ := dCall_fin Q h
   exact ⟨n,by simp only [dOp,e]; exact hn⟩
  ·cases h
 case callh f args=>exact dCallH_fin Q h
 case callvh f args =>
  simp only [dOp] at h
  split at h
  ·rename_i g caps e
   obtain ⟨n,hn⟩ := dCallH_fin Q h
   exact ⟨n,by simp only [dOp,e]; exact hn⟩
  ·cases h
 case inv b tbl x args =>
  simp only [dOp] at h
  split at h
  ·rename_i t v e
   split at h
   ·rename_i g hg
    split at h
    ·rename_i hb
     obtain ⟨n,hn⟩ := dCallH_fin Q h
     exact ⟨n,by simp only [dOp,e,hg,if_pos hb]; exact hn⟩
    ·rename_i hb
     obtain ⟨n,hn⟩ := dCall_fin Q h
     exact ⟨n,by simp only [dOp,e,hg,if_neg hb]; exact hn⟩
   ·cases h
  ·cases h
 all_goals exact ⟨0,h⟩
theorem dOper_fin (Q : Prog) {nm o st r} (h : dOper (Tab Q) nm o st = some r) : ∃ n,dOper (tab Q n) nm o st = some r := by
 unfold dOper at h
 split at h
 ·rename_i hw
  split at h
  ·rename_i v st1 e
   obtain ⟨n,hn⟩ := dOp_fin Q e
   exact ⟨n,by unfold dOper; simp only [hw,hn]; exact h⟩
  ·cases h
 ·rename_i hw
  exact ⟨0,by unfold dOper; simp only [hw]; exact h⟩
 ·cases h
theorem dOps_fin (Q : Prog) : ∀ {ops nm st r},dOps (Tab Q) nm ops st = some r→∃ n,dOps (tab Q n) nm ops st = some r
 | [],_,_,_,h=>⟨0,h⟩
 | o :: os,nm,st,r,h=>by
  unfold dOps at h
  split at h
  ·rename_i st1 e
   obtain ⟨n,hn⟩ := dOper_fin Q e
   obtain ⟨m,hm⟩ := dOps_fin Q h
   refine ⟨max n m,?_⟩
   unfold dOps
   rw [dOper_mono (call_le Q (Nat.le_max_left n m)) hn]
   exact dOps_mono (call_le Q (Nat.le_max_right n m)) hm
  ·cases h
variable (Q : Prog)
noncomputable def Rg (k : List Item) (nx : Nat) (nm : Nat) (ops : List MOper) (st : DS) : Option DS :=
 match dOps (Tab Q) nm ops st with
 | some st1=>Run Q k ⟨st1.V,[],st1.O,nx⟩
 | none=>none
noncomputable def RgV (k : List Item) (nx nm : Nat) (os : List MOper) (d : Option X) : Option (MV × DS)→Option DS
 | some (v,st)=>Rg Q k nx nm os (st.wr d v)
 | none=>none
noncomputable def RgB (k : List Item) (nx nm : Nat) (os : List MOper) (d : Option X) (op : MOp) (st : DS) : Bool→Option DS
 | true=>RgV Q k nx (nm + 4) os d (dOp (Tab Q) nm op st)
 | false=>Rg Q k nx (nm + 4) os (st.wr d (.tup []))
noncomputable def RgG (k : List Item) (nx nm : Nat) (os : List MOper) (d : Option X) (op : MOp) (st : DS) (want : Bool) : MV→Option DS
 | .bool b=>RgB Q k nx nm os d op st (b == want)
 | .tup _=>Rg Q k nx (nm + 4) os (st.wr d (.tup []))
 | _=>none
noncomputable def RunB (k : List Item) (a b : MCode) (st : DS) : Bool→Option DS
 | true=>Run Q (.code a :: k) st
 | false=>Run Q (.code b :: k) st
noncomputable def RunC (k : List Item) (a b : MCode) (st : DS) : MV→Option DS
 | .bool t=>RunB Q k a b st t
 | _=>none
theorem Run_step {k k' : List Item} {st st' : DS} (h : ∀ n,run Q (n + 1) k st = run Q n k' st') : Run Q k st = Run Q k' st' := by
 apply opt_ext
 intro r
 rw [Run_iff,Run_iff]
 constructor
 ·rintro ⟨n,hn⟩
  cases n with
  | zero=>simp [run] at hn
  | succ n=>exact ⟨n,(h n) ▸ hn⟩
 ·rintro ⟨n,hn⟩
  exact ⟨n + 1,(h n).trans hn⟩
theorem Run_end {k : List Item} {st : DS} {r : Option DS} (h : ∀ n,run Q (n + 1) k st = r) : Run Q k st = r := by
 apply opt_ext
 intro x
 rw [Run_iff]
 constructor
 ·rintro ⟨n,hn⟩
  cases n with
  | zero=>simp [run] at hn
  | succ n=>exact (h n) ▸ hn
 ·intro e
  exact ⟨1,(h 0).trans e⟩
theorem Run_nil (st : DS) : Run Q [] st = some st := Run_end Q fun n=>by simp [run]
theorem Run_blk (id k) (st : DS) : Run Q (.blk id :: k) st = Run Q k st := Run_step Q fun n=>by simp [run]
noncomputable def RunL (keep : List (Nat × KMode)) (b : MCode) (k : List Item) (st : DS) : Option DS := Run Q (.code b :: .lp keep b :: k) st
theorem RunL_eq (keep b k) (st : DS) : RunL Q keep b k st = Run Q (.code b :: .lp keep b :: k) st := rfl
theorem Run_lp (keep b k) (st : DS) : Run Q (.lp keep b :: k) st = RunL Q keep b k (canon keep st) := Run_step Q fun n=>by simp [run]
theorem Run_skip (k) (st : DS) : Run Q (.code .skip :: k) st = Run Q k st := Run_step Q fun n=>by simp [run]
theorem Run_seq (a b k) (st : DS) : Run Q (.code (.seq a b) :: k) st = Run Q (.code a :: .code b :: k) st := Run_step Q fun n=>by simp [run]
theorem Run_block (id b k) (st : DS) : Run Q (.code (.block id b) :: k) st = Run Q (.code b :: .blk id :: k) st := Run_step Q fun n=>by simp [run]
theorem Run_loop (keep b k) (st : DS) : Run Q (.code (.loop keep b) :: k) st = RunL Q keep b k (canon keep st) := Run_step Q fun n=>by simp [run]
theorem Run_scope (b k) (st : DS) : Run Q (.code (.scope b) :: k) st = Run Q (.code b :: k) st := Run_step Q fun n=>by simp [run]
theorem Run_ret (k) (st : DS) : Run Q (.code .ret :: k) st = some st := Run_end Q fun n=>by simp [run]
theorem Run_exit (id k) (st : DS) {k'} (h : unwind id k = some k') : Run Q (.code (.exit id) :: k) st = Run Q k' st := Run_step Q fun n=>by simp [run,h]
theorem Run_cond (c a b k) (st : DS) : Run Q (.code (.cond c a b) :: k) st = RunC Q k a b st (st.rd c) := by
 cases h : st.rd c
 case bool t=>cases t <;> exact Run_step Q fun n=>by simp [run,h]
 all_goals exact Run_end Q fun n=>by simp [run,h,RunC]
theorem RunC_bool (k a b) (st : DS) (t) : RunC Q k a b st (.bool t) = RunB Q k a b st t := rfl
theorem RunB_true (k a b) (st : DS) : RunB Q k a b st true = Run Q (.code a :: k) st := rfl
theorem RunB_false (k a b) (st : DS) : RunB Q k a b st false = Run Q (.code b :: k) st := rfl
theorem Run_rg (ops k) (st : DS) : Run Q (.code (.rg ops) :: k) st = Rg Q k (st.nx + 4 * ops.length) st.nx ops st := by
 apply opt_ext
 intro r
 unfold Rg
 rw [Run_iff]
 constructor
 ·rintro ⟨n,hn⟩
  cases n with
  | zero=>simp [run] at hn
  | succ n =>
   simp only [run,dRegion] at hn
   split at hn
   ·rename_i st1 e
    split at e
    ·rename_i st2 e2
     cases e
     rw [dOps_mono (callF_le_Call Q n) e2]
     exact Run_iff.2 ⟨n,hn⟩
    ·cases e
   ·cases hn
 ·intro h
  split at h
  ·rename_i st1 e
   obtain ⟨n,hn⟩ := dOps_fin Q e
   obtain ⟨m,hm⟩ := Run_iff.1 h
   refine ⟨max n m + 1,?_⟩
   simp only [run,dRegion]
   rw [dOps_mono (call_le Q (Nat.le_max_left n m)) hn]
   exact run_le Q (Nat.le_max_right n m) hm
  ·cases h
theorem dDraw_fin (Q : Prog) {pre} : ∀ {ops i nm ms st r},dDraw (Tab Q) pre i nm ms ops st = some r→∃ n,dDraw (tab Q n) pre i nm ms ops st = some r
 | [],_,_,_,_,_,h=>⟨0,h⟩
 | o :: os,i,nm,ms,st,r,h=>by
  simp only [dDraw] at h
  split at h
  ·rename_i hc
   split at h
   ·rename_i st1 e
    obtain ⟨n,hn⟩ := dOper_fin Q e
    obtain ⟨m,hm⟩ := dDraw_fin Q h
    refine ⟨max n m,?_⟩
    simp only [dDraw]
    rw [if_pos hc,dOper_mono (call_le Q (Nat.le_max_left n m)) hn]
    exact dDraw_mono (call_le Q (Nat.le_max_right n m)) hm
   ·cases h
  ·cases h
noncomputable def Rd (Q : Prog) (k : List Item) (nx : Nat) (pre : Nat→List Nat) (i nm : Nat) (ms : List Mark) (ops : List MOper) (st : DS) : Option DS :=
 match dDraw (Tab Q) pre i nm ms ops st with
 | some st1=>Run Q k ⟨st1.V,[],st1.O,nx⟩
 | none=>none
theorem Run_rgd (ops pre k) (st : DS) : Run Q (.code (.rgd ops pre) :: k) st = Rd Q k (st.nx + 4 * ops.length) (preOf pre) 0 st.nx [] ops st := by
 apply opt_ext
 intro r
 unfold Rd
 rw [Run_iff]
 constructor
 ·rintro ⟨n,hn⟩
  cases n with
  | zero=>simp [run] at hn
  | succ n =>
   simp only [run,dRegionD] at hn
   split at hn
   ·rename_i st1 e
    split at e
    ·rename_i st2 e2
     cases e
     rw [dDraw_mono (callF_le_Call Q n) e2]
     exact Run_iff.2 ⟨n,hn⟩
    ·cases e
   ·cases hn
 ·intro h
  split at h
  ·rename_i st1 e
   obtain ⟨n,hn⟩ := dDraw_fin Q e
   obtain ⟨m,hm⟩ := Run_iff.1 h
   refine ⟨max n m + 1,?_⟩
   simp only [run,dRegionD]
   rw [dDraw_mono (call_le Q (Nat.le_max_left n m)) hn]
   exact run_le Q (Nat.le_max_right n m) hm
  ·cases h
theorem dOps_cons (C : CallT) (nm o os) (st : DS) : dOps C nm (o :: os) st = match dOper C nm o st with
  | some st1=>dOps C (nm + 4) os st1
  | none=>none := rfl
theorem Rg_nil (k nx nm) (st : DS) : Rg Q k nx nm [] st = Run Q k ⟨st.V,[],st.O,nx⟩ := rfl
theorem Rg_cons (k nx nm d op os) (st : DS) : Rg Q k nx nm (⟨d,op,none⟩ :: os) st = RgV Q k nx (nm + 4) os d (dOp (Tab Q) nm op st) := by
 unfold Rg RgV dOps dOper wanted
 simp only
 cases dOp (Tab Q) nm op st <;> rfl
theorem RgV_some (k nx nm os d v) (st : DS) : RgV Q k nx nm os d (some (v,st)) = Rg Q k nx nm os (st.wr d v) := rfl
theorem Rg_guard (k nx nm d op os x want) (st : DS) : Rg Q k nx nm (⟨d,op,some (x,want)⟩ :: os) st = RgG Q k nx nm os d op st want (st.rd x) := by
 unfold RgG Rg
 rw [dOps_cons]
 unfold dOper wanted
 cases h : st.rd x
 case bool b =>
  simp only [h]
  cases hb : (b == want)
  ·simp only [RgB,Rg]
  ·simp only [RgB,RgV,Rg]
   cases dOp (Tab Q) nm op st <;> rfl
 all_goals simp only [h,Rg]
theorem RgG_bool (k nx nm os d op st want b) : RgG Q k nx nm os d op st want (.bool b) = RgB Q k nx nm os d op st (b == want) := rfl
theorem RgG_tup (k nx nm os d op st want l) : RgG Q k nx nm os d op st want (.tup l) = Rg Q k nx (nm + 4) os (st.wr d (.tup [])) := rfl
theorem RgB_true (k nx nm os d op st) : RgB Q k nx nm os d op st true = RgV Q k nx (nm + 4) os d (dOp (Tab Q) nm op st) := rfl
theorem RgB_false (k nx nm os d op st) : RgB Q k nx nm os d op st false = Rg Q k nx (nm + 4) os (st.wr d (.tup [])) := rfl
def fin (R : List (Nat × Option (Bool × Nat) × PK)) : Option DS→Option MV
 | some st=>match leave R st with
  | some l=>some (result l)
  | none=>none
 | none=>none
noncomputable def start (m : MFunc) : Option DS→Option MV
 | some st=>fin m.results (Run Q [.code m.body] st)
 | none=>none
theorem Call_fn {f : FuncId} {args : List MV} {m : MFunc} (hp : Q.prim f = none) (hf : Q.fn f = some m) :
  Call Q f args = start Q m (entry m args) := by
 apply opt_ext
 intro r
 rw [Call_iff]
 unfold start
 constructor
 ·rintro ⟨n,hn⟩
  cases n with
  | zero=>simp [callF] at hn
  | succ n =>
   simp only [callF,hp,hf] at hn
   split at hn
   ·cases hn
   ·rename_i st e
    rw [e]
    simp only []
    split at hn
    ·cases hn
    ·rename_i st1 e1
     rw [Run_iff.2 ⟨n,e1⟩]; exact hn
 ·intro h
  split at h
  ·rename_i st e
   unfold fin at h
   split at h
   ·rename_i st1 e1
    obtain ⟨n,hn⟩ := Run_iff.1 e1
    refine ⟨n + 1,?_⟩
    simp only [callF,hp,hf,e,hn]; exact h
   ·cases h
  ·cases h
theorem Call_prim {f : FuncId} {args : List MV} {g : List MV→Option MV} (hp : Q.prim f = some g) : Call Q f args = g args := by
 apply opt_ext
 intro r
 rw [Call_iff]
 constructor
 ·rintro ⟨n,hn⟩
  cases n with
  | zero=>simp [callF] at hn
  | succ n=>simpa only [callF,hp] using hn
 ·intro h
  exact ⟨1,by simp only [callF,hp]; exact h⟩
def finH (k : Nat) (R : List (Nat × Option (Bool × Nat) × PK)) : Option DS→Option (MV × List (Option Obj))
 | some st=>match leaveH R st with
  | some (rs,st2)=>some (exitH k rs st2)
  | none=>none
 | none=>none
noncomputable def startH (m : MFunc) (k : Nat) : Option DS→Option (MV × List (Option Obj))
 | some st=>finH k m.results (Run Q [.code m.body] st)
 | none=>none
theorem CallH_fn {f : FuncId} {args : List MV} {L : List Obj} {m : MFunc} (hf : Q.fn f = some m) :
  CallH Q f args L = startH Q m L.length (entryH m args L) := by
 apply opt_ext
 intro r
 rw [CallH_iff]
 unfold startH
 constructor
 ·rintro ⟨n,hn⟩
  cases n with
  | zero=>simp [callH] at hn
  | succ n =>
   simp only [callH,hf] at hn
   split at hn
   ·cases hn
   ·rename_i st e
    rw [e]
    simp only []
    split at hn
    ·cases hn
    ·rename_i st1 e1
     rw [Run_iff.2 ⟨n,e1⟩]; exact hn
 ·intro h
  split at h
  ·rename_i st e
   unfold finH at h
   split at h
   ·rename_i st1 e1
    obtain ⟨n,hn⟩ := Run_iff.1 e1
    refine ⟨n + 1,?_⟩
    simp only [callH,hf,e,hn]; exact h
   ·cases h
  ·cases h
end Go.Mini
namespace Go.Mini
open Go Go.RowKit
def MV.cell : MV→Bool
 | .agg _ | .tup _ | .fby _ | .fel _ _ | .undef | .eptr _ _ _ _=>false
 | _=>true
inductive Pure : MV→Prop
 | int {k n} : Pure (.int k n)
 | bool {b} : Pure (.bool b)
 | str {s} : Pure (.str s)
 | nilsl : Pure .nilsl
 | bs {l} : Pure (.bs l)
 | sl {s l} (h : ∀ e ∈ l,Pure e) : Pure (.sl s l)
 | fsl {s l} (h : ∀ e ∈ l,Pure e) : Pure (.fsl s l)
 | agg {l} (h : ∀ e ∈ l,Pure e) : Pure (.agg l)
 | tup {l} (h : ∀ e ∈ l,Pure e) : Pure (.tup l)
 | nilptr : Pure .nilptr
 | nilfn : Pure .nilfn
 | nilif : Pure .nilif
 | iface {t v} (h : Pure v) : Pure (.iface t v)
 | fn {f l} (h : ∀ e ∈ l,Pure e) : Pure (.fn f l)
 | cptr {l} (h : ∀ e ∈ l,Pure e) : Pure (.cptr l)
structure Env where
 C : Nat→Nat
 w : World
 born : Nat→Prop
 len : Nat→Option Nat
 blk : Nat→Option Nat
 cap : Nat→Nat
 sz : Nat→Nat
def byteV (b : UInt8) : Value := .int .u8 b.toNat
structure Cells (E : Env) (ad : Addr) (vs : List Value) : Prop where
 spot : ad.spot = none
 com : ad.off + vs.length ≤ E.C ad.block
 cell : ∀ i v,vs[i]? = some v→E.w.cell? ⟨ad.block,ad.off + i,none⟩ = some v
def hdr (E : Env) (o n : Nat) : Value :=
 match E.blk o with
 | none=>.slice none 0 0
 | some b=>.slice (some ⟨b,0,none⟩) n (E.cap o)
def Uni (s : Nat) (l : List MV) : Prop := ∀ e ∈ l,e.cells.length = s ∧ (∀ c ∈ e.cells,c.cell = true) ∧ Pure e
mutual
inductive RelV (E : Env) : MV→Value→Prop
 | int {k n} (h0 : k.min ≤ n) (h1 : n ≤ k.max) : RelV E (.int k n) (.int k n)
 | bool {b} : RelV E (.bool b) (.bool b)
 | str {s : List UInt8} (h : s.length < 2 ^ 62) : RelV E (.str s) (.string ⟨s.toArray⟩)
 | nilsl : RelV E .nilsl (.slice none 0 0)
 | bs {l : List UInt8} {a cap} (hc : l.length ≤ cap) (hl : l.length < 2 ^ 62) (h : l ≠ []→∃ ad,a = some ad ∧ Cells E ad (l.map byteV)) : RelV E (.bs l) (.slice a l.length cap)
 | sl {s : Nat} {l : List MV} {a cap vs} (hc : l.length ≤ cap) (hl : l.length < 2 ^ 62) (h0 : 0 < s) (hs : Uni s l) (hr : RelL E (l.flatMap MV.cells) vs)
   (h : l ≠ []→∃ ad,a = some ad ∧ Cells E ad vs) : RelV E (.sl s l) (.slice a l.length cap)
 | fsl {s : Nat} {l : List MV} {a} (h : RelV E (.sl s l) (.slice a l.length l.length)) : RelV E (.fsl s l) (.slice a l.length l.length)
 | agg {l vs} (hr : RelL E l vs) (hc : ∀ c ∈ l,c.cell = true ∧ Pure c) : RelV E (.agg l) (.agg vs.toArray)
 | tup {l vs} (hr : RelL E l vs) : RelV E (.tup l) (.tuple vs.toArray)
 | nilptr : RelV E .nilptr (.pointer none)
 | nilfn : RelV E .nilfn .nilFunc
 | nilif : RelV E .nilif .nilIface
 | iface {t v x} (hr : RelV E v x) (hp : Pure v) : RelV E (.iface t v) (.iface t x)
 | fn {f caps vs} (hr : RelL E caps vs) : RelV E (.fn f caps) (.func (.func f) #[] vs.toArray)
 | own {o n x} (hb : E.born o) (h1 : x.oneCell' = true) (h : E.len o = some n→x = hdr E o n) : RelV E (.own o n) x
 | ptr {o j x} (hb : E.born o) (h1 : x.oneCell' = true) (h : E.len o ≠ none→∃ b,E.blk o = some b ∧ x = .pointer (some ⟨b,j,none⟩)) : RelV E (.ptr o j) x
 | eptr {o i j n x} (hb : E.born o) (h1 : x.oneCell' = true) (h : E.len o = some n→∃ b,E.blk o = some b ∧ x = .pointer (some ⟨b,i * E.sz o + j,none⟩)) : RelV E (.eptr o i j n) x
 | cptr {l vs ad} (hr : RelL E l vs) (hc : ∀ c ∈ l,c.cell = true ∧ Pure c) (h : Cells E ad vs) : RelV E (.cptr l) (.pointer (some ad))
 | undef {x} : RelV E .undef x
inductive RelL (E : Env) : List MV→List Value→Prop
 | nil : RelL E [] []
 | cons {v x l vs} (h : RelV E v x) (r : RelL E l vs) : RelL E (v :: l) (x :: vs)
end
structure Ext (E E' : Env) : Prop where
 C : ∀ b,E.C b ≤ E'.C b
 cell : ∀ b i,i < E.C b→E'.w.cell? ⟨b,i,none⟩ = E.w.cell? ⟨b,i,none⟩
 born : ∀ o,E.born o→E'.born o
 len : ∀ o,E.born o→∀ n,E'.len o = some n→E.len o = some n ∧ E'.blk o = E.blk o ∧ E'.cap o = E.cap o ∧ E'.sz o = E.sz o
theorem Ext.refl (E : Env) : Ext E E := ⟨fun _=>Nat.le_refl _,fun _ _ _=>rfl,fun _ h=>h,fun _ _ _ h=>⟨h,rfl,rfl,rfl⟩⟩
theorem Ext.trans {A B D : Env} (h : Ext A B) (k : Ext B D) : Ext A D where
 C b := Nat.le_trans (h.C b) (k.C b)
 cell b i hi := (k.cell b i (Nat.lt_of_lt_of_le hi (h.C b))).trans (h.cell b i hi)
 born o ho := k.born o (h.born o ho)
 len o ho n hn := by
  obtain ⟨a,b,c,d⟩ := k.len o (h.born o ho) n hn
  obtain ⟨a',b',c',d'⟩ := h.len o ho n a
  exact ⟨a',b.trans b',c.trans c',d.trans d'⟩
theorem Cells.ext {E E' : Env} (x : Ext E E') {ad vs} (h : Cells E ad vs) : Cells E' ad vs where
 spot := h.spot
 com := Nat.le_trans h.com (x.C _)
 cell i v hv := by
  have hi : i < vs.length := by
   rcases Nat.lt_or_ge i vs.length with h' | h'
   ·exact h'
   ·rw [List.getElem?_eq_none h'] at hv; cases hv
  rw [x.cell _ _ (by have := h.com; omega)]
  exact h.cell i v hv
mutual
theorem RelV.ext {E E' : Env} (x : Ext E E') : ∀ {v y},RelV E v y→RelV E' v y
 | _,_,.int h0 h1=>.int h0 h1
 | _,_,.bool=>.bool
 | _,_,.str h=>.str h
 | _,_,.nilsl=>.nilsl
 | _,_,.bs hc hl h=>.bs hc hl fun hn=>let ⟨ad,e,hh⟩ := h hn; ⟨ad,e,hh.ext x⟩
 | _,_,.sl hc hl h0 hs hr h=>.sl hc hl h0 hs (RelL.ext x hr) fun hn=>let ⟨ad,e,hh⟩ := h hn; ⟨ad,e,hh.ext x⟩
 | _,_,.fsl h=>.fsl (RelV.ext x h)
 | _,_,.agg hr hc=>.agg (RelL.ext x hr) hc
 | _,_,.tup hr=>.tup (RelL.ext x hr)
 | _,_,.nilptr=>.nilptr
 | _,_,.nilfn=>.nilfn
 | _,_,.nilif=>.nilif
 | _,_,.iface hr hp=>.iface (RelV.ext x hr) hp
 | _,_,.fn hr=>.fn (RelL.ext x hr)
 | _,_,.own hb h1 h=>.own (x.born _ hb) h1 fun hn=>by
  obtain ⟨a,b,c,d⟩ := x.len _ hb _ hn
  rw [h a]; unfold hdr; rw [b,c]
 | _,_,.ptr hb h1 h=>.ptr (x.born _ hb) h1 fun hn=>by
  obtain ⟨m,hm⟩ := Option.ne_none_iff_exists'.1 hn
  obtain ⟨a,b,c,d⟩ := x.len _ hb _ hm
  obtain ⟨bb,h1,h2⟩ := h (by rw [a]; simp)
  exact ⟨bb,b.trans h1,h2⟩
 | _,_,.eptr hb h1 h=>.eptr (x.born _ hb) h1 fun hn=>by
  obtain ⟨a,b,c,d⟩ := x.len _ hb _ hn
  obtain ⟨bb,h1,h2⟩ := h a
  exact ⟨bb,b.trans h1,by rw [d]; exact h2⟩
 | _,_,.cptr hr hc h=>.cptr (RelL.ext x hr) hc (h.ext x)
 | _,_,.undef=>.undef
theorem RelL.ext {E E' : Env} (x : Ext E E') : ∀ {l ys},RelL E l ys→RelL E' l ys
 | _,_,.nil=>.nil
 | _,_,.cons h r=>.cons (RelV.ext x h) (RelL.ext x r)
end
theorem Cells.same {E E' : Env} (hC : E'.C = E.C) (hw : E'.w = E.w) {ad vs} (h : Cells E ad vs) : Cells E' ad vs :=
 ⟨h.spot,by rw [hC]; exact h.com,fun i v hv=>by rw [hw]; exact h.cell i v hv⟩
theorem RelL.length {E : Env} : ∀ {l vs},RelL E l vs→l.length = vs.length
 | _,_,.nil=>rfl
 | _,_,.cons _ r=>by simp [r.length]
theorem RelL.get {E : Env} : ∀ {l : List MV} {vs : List Value},RelL E l vs→∀ {i : Nat} {v : MV},l[i]? = some v→∃ x,vs[i]? = some x ∧ RelV E v x
 | _,_,.nil,i,v,h=>by simp at h
 | _,_,.cons h r,0,v,e=>by simp at e; subst e; exact ⟨_,rfl,h⟩
 | _,_,.cons h r,i + 1,v,e=>by simpa using r.get (by simpa using e)
theorem RelL.take {E : Env} : ∀ {l vs},RelL E l vs→∀ n,RelL E (l.take n) (vs.take n)
 | _,_,.nil,n=>by simp; exact .nil
 | _,_,.cons h r,0=>by simp; exact .nil
 | _,_,.cons h r,n + 1=>by simp; exact .cons h (r.take n)
theorem RelL.drop {E : Env} : ∀ {l vs},RelL E l vs→∀ n,RelL E (l.drop n) (vs.drop n)
 | _,_,.nil,n=>by simp; exact .nil
 | _,_,.cons h r,0=>by simp; exact .cons h r
 | _,_,.cons h r,n + 1=>by simpa using r.drop n
theorem RelL.append {E : Env} : ∀ {l vs l' vs'},RelL E l vs→RelL E l' vs'→RelL E (l ++ l') (vs ++ vs')
 | _,_,_,_,.nil,h'=>h'
 | _,_,_,_,.cons h r,h'=>.cons h (r.append h')
theorem RelL.set {E : Env} : ∀ {l vs},RelL E l vs→∀ i {v x},RelV E v x→RelL E (l.set i v) (vs.set i x)
 | _,_,.nil,i,v,x,h=>by simp; exact .nil
 | _,_,.cons h r,0,v,x,h'=>.cons h' r
 | _,_,.cons h r,i + 1,v,x,h'=>.cons h (r.set i h')
theorem RelL.replicate {E : Env} {v x} (h : RelV E v x) : ∀ n,RelL E (List.replicate n v) (List.replicate n x)
 | 0=>.nil
 | n + 1=>.cons h (RelL.replicate h n)
theorem RelV.one {E : Env} {v x} (h : RelV E v x) (hc : v.cell = true) : x.oneCell' = true := by
 cases h with
 | own hb h1 h=>exact h1
 | ptr hb h1 h=>exact h1
 | eptr hb h1 h=>exact h1
 | agg=>cases hc
 | tup=>cases hc
 | undef=>cases hc
 | _=>rfl
theorem cells_one {x : Value} (h : x.oneCell' = true) : x.cells = #[x] := by
 cases x <;> first | rfl | cases h
theorem MV.cells_cell {v : MV} (h : v.cell = true) : v.cells = [v] := by
 cases v <;> first | rfl | cases h
theorem RelL.one {E : Env} : ∀ {l vs},RelL E l vs→(∀ c ∈ l,c.cell = true)→∀ x ∈ vs,x.oneCell' = true
 | _,_,.nil,_,x,hx=>by cases hx
 | _,_,.cons h r,hc,x,hx=>by
  rcases List.mem_cons.1 hx with rfl | hx
  ·exact h.one (hc _ (by simp))
  ·exact r.one (fun c hh=>hc c (by simp [hh])) x hx
theorem RelV.cells {E : Env} {v x} (h : RelV E v x) (hf : v.fit = true) : RelL E v.cells x.cells.toList ∧ ∀ c ∈ v.cells,c.cell = true := by
 by_cases hv : v.cell = true
 ·rw [cells_one (h.one hv),MV.cells_cell hv]
  exact ⟨.cons h .nil,by simpa using hv⟩
 ·cases h with
  | agg hr hc=>exact ⟨by simpa [MV.cells,Value.cells] using hr,fun c h=>(hc c h).1⟩
  | tup=>cases hf
  | undef=>cases hf
  | eptr=>cases hf
  | _=>exact (hv rfl).elim
def Obj.len : Obj→Nat
 | .cells l=>l.length
 | .byt l _=>l.length
 | .el _ l _=>l.length
 | .iter _ _=>0
def Free (n : Nat) (fr : Nat × Nat) : Prop := fr.1 = fr.2 ∨ n ≤ fr.1
theorem Free.out {n : Nat} {fr : Nat × Nat} (h : Free n fr) : ∀ i,i < n→¬ (fr.1 ≤ i ∧ i < fr.2) := by
 intro i hi hh
 rcases h with h | h <;> omega
structure Row (E : Env) (b cap s : Nat) (vs : List Value) (lent : Bool) : Prop where
 row : ∃ c e fr,E.w.heap[b]? = some (.cells c e fr) ∧ c.size = cap * s ∧ Free c.size fr ∧ ∀ (i : Nat) (v : Value),vs[i]? = some v→c[i]? = some v
 com : E.C b ≤ vs.length
 not : lent = false→E.C b = 0
inductive ObjOK (E : Env) (o : Nat) : Obj→Prop
 | cells {l b vs e} (hb : E.blk o = some b) (hh : E.w.heap[b]? = some (.cells vs.toArray e (0,0))) (hr : RelL E l vs) (hc : ∀ c ∈ l,c.cell = true) (h0 : E.C b = 0) : ObjOK E o (.cells l)
 | iter {s pos b} (hb : E.blk o = some b) (hh : E.w.heap[b]? = some (.stringIter ⟨s.toArray⟩ pos)) (hl : s.length < 2 ^ 62) (h0 : E.C b = 0) : ObjOK E o (.iter s pos)
 | byt0 {lent} (hb : E.blk o = none) (hs : E.sz o = 1) : ObjOK E o (.byt [] lent)
 | byt {l lent b} (hb : E.blk o = some b) (hs : E.sz o = 1) (hc : l.length ≤ E.cap o) (hl : l.length < 2 ^ 62) (hr : Row E b (E.cap o) 1 (l.map byteV) lent) : ObjOK E o (.byt l lent)
 | el0 {s lent} (hb : E.blk o = none) (hs : E.sz o = s) (h0 : 0 < s) : ObjOK E o (.el s [] lent)
 | el {s l lent b vs} (hb : E.blk o = some b) (hs : E.sz o = s) (h0 : 0 < s) (hc : l.length ≤ E.cap o) (hl : l.length < 2 ^ 62) (hu : Uni s l) (hv : RelL E (l.flatMap MV.cells) vs) (hr : Row E b (E.cap o) s vs lent) : ObjOK E o (.el s l lent)
structure Inv (own : Nat→Prop) (tm : Nat→Bool) (E : Env) (st : DS) (tmps : Array Value) : Prop where
 len : ∀ o,E.len o = (look st.O o).map Obj.len
 objs : ∀ o x,look st.O o = some x→ObjOK E o x
 sep : ∀ o o' b,look st.O o ≠ none→look st.O o' ≠ none→E.blk o = some b→E.blk o' = some b→o = o'
 ownb : ∀ o b,look st.O o ≠ none→E.blk o = some b→own b
 good : ∀ b,0 < E.C b→b < E.w.heap.size
 born : ∀ o,look st.O o ≠ none→E.born o
 base : ∀ k,E.w.heap.size ≤ k→own k
 tabs : ∀ k g,k < 2→tm (1000000 + k + 2 * g) = true→Cells E ⟨g,0,none⟩ ((tabZ k).map (.int .u8))
 T : ∀ n v,look st.T n = some v→tm n = true ∧ ∃ x,tmps[n]? = some x ∧ RelV E v x
 V : ∀ n v,look st.V n = some v→tm n = false ∧ ∃ x,tmps[n]? = some x ∧ RelV E v x
structure Move (own : Nat→Prop) (E E' : Env) : Prop extends Ext E E' where
 os : E'.w.os = E.w.os
 tape : E'.w.tape = E.w.tape
 output : E'.w.output = E.w.output
 size : E.w.heap.size ≤ E'.w.heap.size
 block : ∀ k,k < E.w.heap.size→¬ own k→E'.w.heap[k]? = E.w.heap[k]?
 com : ∀ k,¬ own k→E'.C k = E.C k
theorem Move.refl (own) (E : Env) : Move own E E := ⟨Ext.refl E,rfl,rfl,rfl,Nat.le_refl _,fun _ _ _=>rfl,fun _ _=>rfl⟩
theorem Move.trans {own} {A B D : Env} (h : Move own A B) (k : Move own B D) : Move own A D where
 toExt := h.toExt.trans k.toExt
 os := k.os.trans h.os
 tape := k.tape.trans h.tape
 output := k.output.trans h.output
 size := Nat.le_trans h.size k.size
 block i hi hn := (k.block i (Nat.lt_of_lt_of_le hi h.size) hn).trans (h.block i hi hn)
 com i hn := (k.com i hn).trans (h.com i hn)
section look
variable {α : Type}
theorem look_put_same (l : List (Nat × α)) (n : Nat) (x : α) : look (put l n x) n = some x := by simp [put,look]
theorem look_put_other (l : List (Nat × α)) {n m : Nat} (x : α) (hn : n ≠ m) : look (put l n x) m = look l m := by simp [put,look,hn]
theorem look_put (l : List (Nat × α)) (n m : Nat) (x : α) : look (put l n x) m = if n = m then some x else look l m := by
 by_cases h : n = m
 ·subst h; simp [look_put_same]
 ·simp [h,look_put_other l x h]
end look
theorem Inv.change {own tm E st tmps} (h : Inv own tm E st tmps) {E' : Env} {st' : DS} (mv : Move own E E') (hT : st'.T = st.T) (hV : st'.V = st.V)
  (len : ∀ o,E'.len o = (look st'.O o).map Obj.len) (objs : ∀ o x,look st'.O o = some x→ObjOK E' o x)
  (sep : ∀ o o' b,look st'.O o ≠ none→look st'.O o' ≠ none→E'.blk o = some b→E'.blk o' = some b→o = o')
  (own' : ∀ o b,look st'.O o ≠ none→E'.blk o = some b→own b) (good : ∀ b,0 < E'.C b→b < E'.w.heap.size) (born : ∀ o,look st'.O o ≠ none→E'.born o) : Inv own tm E' st' tmps where
 len := len
 objs := objs
 sep := sep
 ownb := own'
 good := good
 born := born
 base k hk := h.base k (Nat.le_trans mv.size hk)
 tabs k g hk ht := (h.tabs k g hk ht).ext mv.toExt
 T n v hn := by
  rw [hT] at hn
  obtain ⟨a,x,b,c⟩ := h.T n v hn
  exact ⟨a,x,b,c.ext mv.toExt⟩
 V n v hn := by
  rw [hV] at hn
  obtain ⟨a,x,b,c⟩ := h.V n v hn
  exact ⟨a,x,b,c.ext mv.toExt⟩
theorem ObjOK.ext {E E' : Env} (x : Ext E E') {o : Nat} {ob : Obj} (h : ObjOK E o ob) (hb : E'.blk o = E.blk o) (hc : E'.cap o = E.cap o) (hs : E'.sz o = E.sz o)
  (hw : ∀ b,E.blk o = some b→E'.w.heap[b]? = E.w.heap[b]? ∧ E'.C b = E.C b) : ObjOK E' o ob := by
 cases h with
 | cells h1 hh hr hc' h0=>exact .cells (hb.trans h1) ((hw _ h1).1.trans hh) (hr.ext x) hc' ((hw _ h1).2.trans h0)
 | iter h1 hh hl h0=>exact .iter (hb.trans h1) ((hw _ h1).1.trans hh) hl ((hw _ h1).2.trans h0)
 | byt0 h1 h2=>exact .byt0 (hb.trans h1) (hs.trans h2)
 | byt h1 h2 h3 h4 h5 =>
  refine .byt (hb.trans h1) (hs.trans h2) (hc ▸ h3) h4 ⟨?_,(hw _ h1).2 ▸ h5.com,(hw _ h1).2 ▸ h5.not⟩
  rw [(hw _ h1).1,hc]; exact h5.row
 | el0 h1 h2 h3=>exact .el0 (hb.trans h1) (hs.trans h2) h3
 | el h1 h2 h3 h4 h5 h6 h7 h8 =>
  refine .el (hb.trans h1) (hs.trans h2) h3 (hc ▸ h4) h5 h6 (h7.ext x) ⟨?_,(hw _ h1).2 ▸ h8.com,(hw _ h1).2 ▸ h8.not⟩
  rw [(hw _ h1).1,hc]; exact h8.row
def upd {α : Type} (f : Nat→α) (n : Nat) (x : α) (m : Nat) : α := if m = n then x else f m
theorem upd_same {α : Type} (f : Nat→α) (n : Nat) (x : α) : upd f n x n = x := by simp [upd]
theorem upd_other {α : Type} (f : Nat→α) {n m : Nat} (x : α) (h : m ≠ n) : upd f n x m = f m := by simp [upd,h]
theorem Row.cell {E : Env} {b cap s vs lent} (h : Row E b cap s vs lent) {i : Nat} {v : Value} (hi : vs[i]? = some v) : E.w.cell? ⟨b,i,none⟩ = some v := by
 obtain ⟨c,e,fr,hh,_,_,hv⟩ := h.row
 simp [World.cell?,hh,hv i v hi]
end Go.Mini
namespace Go.Mini
open Go Go.RowKit
theorem lend_own {own tm E st tmps} (h : Inv own tm E st tmps) {o : Nat} {ob ob' : Obj} (ho : look st.O o = some ob) (hl : ob'.len = ob.len) (E' : Env)
  (hE : E' = E ∨ ∃ b n,E.blk o = some b ∧ E.C b ≤ n ∧ E' = { E with C := upd E.C b n }) (hx : ObjOK E' o ob') :
  Move own E E' ∧ E'.w = E.w ∧ Inv own tm E' { st with O := put st.O o ob' } tmps := by
 have hpres : ∀ p,look (put st.O o ob') p ≠ none→look st.O p ≠ none := by
  intro p hp
  rw [look_put] at hp
  by_cases hpo : o = p
  ·subst hpo; rw [ho]; simp
  ·simpa [hpo] using hp
 have hobj : ∀ {E' : Env},Ext E E'→E'.blk = E.blk→E'.cap = E.cap→E'.sz = E.sz→E'.w = E.w→(∀ p b,p ≠ o→look st.O p ≠ none→E.blk p = some b→E'.C b = E.C b)→ObjOK E' o ob' →
   ∀ p x,look (put st.O o ob') p = some x→ObjOK E' p x := by
  intro E' x hb hc hs hw hC hx p y hp
  rw [look_put] at hp
  by_cases hpo : o = p
  ·subst hpo; simp at hp; subst hp; exact hx
  ·simp [hpo] at hp
   exact (h.objs p y hp).ext x (by rw [hb]) (by rw [hc]) (by rw [hs]) fun b hbb=>⟨by rw [hw],hC p b (Ne.symm hpo) (by rw [hp]; simp) hbb⟩
 have hlen : ∀ p,E.len p = (look (put st.O o ob') p).map Obj.len := by
  intro p
  rw [look_put,h.len p]
  by_cases hpo : o = p
  ·subst hpo; simp [ho,hl]
  ·simp [hpo]
 rcases hE with rfl | ⟨b,n,hb,hn,rfl⟩
 ·have mv := Move.refl own E'
  refine ⟨mv,rfl,h.change mv rfl rfl hlen (hobj (Ext.refl _) rfl rfl rfl rfl (fun _ _ _ _ _=>rfl) hx) ?_ ?_ h.good ?_⟩
  ·intro p q b' hp hq; exact h.sep p q b' (hpres p hp) (hpres q hq)
  ·intro p b' hp; exact h.ownb p b' (hpres p hp)
  ·intro p hp; exact h.born p (hpres p hp)
 ·have hob : own b := h.ownb o b (by rw [ho]; simp) hb
  have x : Ext E { E with C := upd E.C b n } := by
   refine ⟨fun k=>?_,fun _ _ _=>rfl,fun _ h=>h,fun _ _ _ h=>⟨h,rfl,rfl,rfl⟩⟩
   show E.C k ≤ upd E.C b n k
   by_cases hk : k = b
   ·subst hk; rw [upd_same]; exact hn
   ·rw [upd_other _ _ hk]; exact Nat.le_refl _
  have mv : Move own E { E with C := upd E.C b n } := ⟨x,rfl,rfl,rfl,Nat.le_refl _,fun _ _ _=>rfl,fun k hk=>by
   show upd E.C b n k = E.C k
   rw [upd_other]; rintro rfl; exact hk hob⟩
  refine ⟨mv,rfl,h.change mv rfl rfl hlen (hobj x rfl rfl rfl rfl ?_ hx) ?_ ?_ ?_ ?_⟩
  ·intro p b' hp hp1 hb'
   show upd E.C b n b' = E.C b'
   rw [upd_other]
   rintro rfl
   exact hp (h.sep p o b' hp1 (by rw [ho]; simp) hb' hb)
  ·intro p q b' hp hq; exact h.sep p q b' (hpres p hp) (hpres q hq)
  ·intro p b' hp; exact h.ownb p b' (hpres p hp)
  ·intro k hk
   show k < E.w.heap.size
   have hk : 0 < upd E.C b n k := hk
   by_cases hkb : k = b
   ·subst hkb
    have := h.objs o ob ho
    cases this with
    | cells h1 hh=>cases h1.symm.trans hb; exact (Array.getElem?_eq_some_iff.1 hh).1
    | iter h1 hh=>cases h1.symm.trans hb; exact (Array.getElem?_eq_some_iff.1 hh).1
    | byt0 h1=>cases h1.symm.trans hb
    | byt h1 _ _ _ hr=>cases h1.symm.trans hb; obtain ⟨c,e,fr,hh,_⟩ := hr.row; exact (Array.getElem?_eq_some_iff.1 hh).1
    | el0 h1=>cases h1.symm.trans hb
    | el h1 _ _ _ _ _ _ hr=>cases h1.symm.trans hb; obtain ⟨c,e,fr,hh,_⟩ := hr.row; exact (Array.getElem?_eq_some_iff.1 hh).1
   ·rw [upd_other _ _ hkb] at hk; exact h.good k hk
  ·intro p hp; exact h.born p (hpres p hp)
theorem Row.commit {E : Env} {b cap s vs lent} (h : Row E b cap s vs lent) : Row { E with C := upd E.C b vs.length } b cap s vs true :=
 ⟨h.row,by show upd E.C b vs.length b ≤ _; rw [upd_same]; exact Nat.le_refl _,fun e=>by cases e⟩
theorem Ext.commit {E : Env} {b n} (hn : E.C b ≤ n) : Ext E { E with C := upd E.C b n } := by
 refine ⟨fun k=>?_,fun _ _ _=>rfl,fun _ h=>h,fun _ _ _ h=>⟨h,rfl,rfl,rfl⟩⟩
 show E.C k ≤ upd E.C b n k
 by_cases hk : k = b
 ·subst hk; rw [upd_same]; exact hn
 ·rw [upd_other _ _ hk]; exact Nat.le_refl _
theorem pureHead_pure {v : MV} (h : v.pureHead = true) {E x} (hr : RelV E v x) : Pure v := by
 cases hr with
 | int=>exact .int
 | bool=>exact .bool
 | str=>exact .str
 | nilsl=>exact .nilsl
 | bs=>exact .bs
 | sl _ _ _ hs=>exact .sl fun e he=>(hs e he).2.2
 | fsl hr=>cases hr with | sl _ _ _ hs=>exact .fsl fun e he=>(hs e he).2.2
 | agg _ hc=>exact .agg fun e he=>(hc e he).2
 | tup=>cases h
 | nilptr=>exact .nilptr
 | nilfn=>exact .nilfn
 | nilif=>exact .nilif
 | iface _ hp=>exact .iface hp
 | fn hr =>
  rename_i f l vs
  cases l with
  | nil=>exact .fn (by simp)
  | cons=>simp [MV.pureHead] at h
 | own=>cases h
 | ptr=>cases h
 | eptr=>cases h
 | cptr _ hc=>exact .cptr fun e he=>(hc e he).2
 | undef=>cases h
theorem lend_sound {own tm E st tmps} (h : Inv own tm E st tmps) {v v' : MV} {st' : DS} {x : Value} (hr : RelV E v x) (e : lend v st = some (v',st')) :
  ∃ E',Move own E E' ∧ E'.w = E.w ∧ E'.born = E.born ∧ Inv own tm E' st' tmps ∧ RelV E' v' x ∧ Pure v' ∧ st'.T = st.T ∧ st'.V = st.V ∧ st'.nx = st.nx := by
 have triv : ∀ {y},v' = y→st' = st→Pure y→RelV E y x→∃ E',Move own E E' ∧ E'.w = E.w ∧ E'.born = E.born ∧ Inv own tm E' st' tmps ∧ RelV E' v' x ∧ Pure v' ∧ st'.T = st.T ∧ st'.V = st.V ∧ st'.nx = st.nx := by
  rintro y rfl rfl hp hr
  exact ⟨E,Move.refl _ _,rfl,rfl,h,hr,hp,rfl,rfl,rfl⟩
 cases hr with
 | int h0 h1=>simp only [lend,Option.some.injEq,Prod.mk.injEq] at e; exact triv e.1.symm e.2.symm .int (.int h0 h1)
 | bool=>simp only [lend,Option.some.injEq,Prod.mk.injEq] at e; exact triv e.1.symm e.2.symm .bool .bool
 | str hh=>simp only [lend,Option.some.injEq,Prod.mk.injEq] at e; exact triv e.1.symm e.2.symm .str (.str hh)
 | nilsl=>simp only [lend,Option.some.injEq,Prod.mk.injEq] at e; exact triv e.1.symm e.2.symm .nilsl .nilsl
 | bs a b c=>simp only [lend,Option.some.injEq,Prod.mk.injEq] at e; exact triv e.1.symm e.2.symm .bs (.bs a b c)
 | sl a b c d f g=>simp only [lend,Option.some.injEq,Prod.mk.injEq] at e; exact triv e.1.symm e.2.symm (.sl fun e he=>(d e he).2.2) (.sl a b c d f g)
 | fsl hr=>cases hr with | sl a b c d f g=>simp only [lend,Option.some.injEq,Prod.mk.injEq] at e; exact triv e.1.symm e.2.symm (.fsl fun e he=>(d e he).2.2) (.fsl (.sl a b c d f g))
 | agg a b=>simp only [lend,Option.some.injEq,Prod.mk.injEq] at e; exact triv e.1.symm e.2.symm (.agg fun e he=>(b e he).2) (.agg a b)
 | tup=>simp [lend] at e
 | nilptr=>simp only [lend,Option.some.injEq,Prod.mk.injEq] at e; exact triv e.1.symm e.2.symm .nilptr .nilptr
 | nilfn=>simp only [lend,Option.some.injEq,Prod.mk.injEq] at e; exact triv e.1.symm e.2.symm .nilfn .nilfn
 | nilif=>simp only [lend,Option.some.injEq,Prod.mk.injEq] at e; exact triv e.1.symm e.2.symm .nilif .nilif
 | iface a b=>simp only [lend,Option.some.injEq,Prod.mk.injEq] at e; exact triv e.1.symm e.2.symm (.iface b) (.iface a b)
 | fn a =>
  rename_i f caps vs
  simp only [lend] at e
  split at e
  ·rename_i hp
   simp only [Option.some.injEq,Prod.mk.injEq] at e
   refine triv e.1.symm e.2.symm (.fn ?_) (.fn a)
   have : ∀ {l : List MV} {vs : List Value},RelL E l vs→l.all MV.pureHead = true→∀ c ∈ l,Pure c := by
    intro l
    induction l with
    | nil=>intro vs _ _ c hc; cases hc
    | cons y l ih =>
     intro vs hr ha c hc
     cases hr with
     | cons h1 h2 =>
      simp only [List.all_cons,Bool.and_eq_true] at ha
      rcases List.mem_cons.1 hc with rfl | hc
      ·exact pureHead_pure ha.1 h1
      ·exact ih h2 ha.2 c hc
   exact this a hp
  ·cases e
 | ptr=>simp [lend] at e
 | eptr=>simp [lend] at e
 | cptr a b c=>simp only [lend,Option.some.injEq,Prod.mk.injEq] at e; exact triv e.1.symm e.2.symm (.cptr fun e he=>(b e he).2) (.cptr a b c)
 | undef=>simp [lend] at e
 | own hb h1 hh =>
  rename_i o n
  simp only [lend] at e
  split at e
  ·rename_i l bb hl
   split at e
   ·rename_i hn
    simp only [Option.some.injEq,Prod.mk.injEq] at e
    obtain ⟨rfl,rfl⟩ := e
    subst hn
    have hx := hh (by rw [h.len,hl]; rfl)
    subst hx
    have ok := h.objs o _ hl
    cases ok with
    | byt0 k1 k2 =>
     obtain ⟨m,e1,i⟩ := lend_own h hl (ob' := .byt [] true) rfl E (.inl rfl) (.byt0 k1 k2)
     refine ⟨E,m,rfl,rfl,i,?_,.bs,rfl,rfl,rfl⟩
     unfold hdr; rw [k1]
     exact .bs (Nat.le_refl _) (by simp) (fun hn=>(hn rfl).elim)
    | byt k1 k2 k3 k4 k5 =>
     rename_i b
     have hx := k5.commit
     simp only [List.length_map] at hx
     obtain ⟨m,e1,i⟩ := lend_own h hl (ob' := .byt l true) rfl { E with C := upd E.C b l.length } (.inr ⟨b,l.length,k1,by simpa using k5.com,rfl⟩) (.byt k1 k2 k3 k4 (by simpa using hx))
     refine ⟨_,m,rfl,rfl,i,?_,.bs,rfl,rfl,rfl⟩
     unfold hdr; rw [k1]
     refine .bs k3 k4 fun _=>⟨_,rfl,rfl,?_,fun j v hv=>?_⟩
     ·show 0 + _ ≤ upd E.C b l.length b
      rw [upd_same]; simp
     ·simpa using k5.cell hv
   ·cases e
  ·rename_i s l bb hl
   split at e
   ·rename_i hn
    simp only [Option.some.injEq,Prod.mk.injEq] at e
    obtain ⟨rfl,rfl⟩ := e
    subst hn
    have hx := hh (by rw [h.len,hl]; rfl)
    subst hx
    have ok := h.objs o _ hl
    cases ok with
    | el0 k1 k2 k3 =>
     obtain ⟨m,e1,i⟩ := lend_own h hl (ob' := .el s [] true) rfl E (.inl rfl) (.el0 k1 k2 k3)
     refine ⟨E,m,rfl,rfl,i,?_,.sl (by simp),rfl,rfl,rfl⟩
     unfold hdr; rw [k1]
     exact .sl (Nat.le_refl _) (by simp) k3 (fun e he=>by cases he) .nil (fun hn=>(hn rfl).elim)
    | el k1 k2 k3 k4 k5 k6 k7 k8 =>
     rename_i b vs
     have hx := k8.commit
     have ee := Ext.commit k8.com
     obtain ⟨m,e1,i⟩ := lend_own h hl (ob' := .el s l true) rfl { E with C := upd E.C b vs.length } (.inr ⟨b,vs.length,k1,k8.com,rfl⟩) (.el k1 k2 k3 k4 k5 k6 (k7.ext ee) hx)
     refine ⟨_,m,rfl,rfl,i,?_,.sl (fun e he=>(k6 e he).2.2),rfl,rfl,rfl⟩
     unfold hdr; rw [k1]
     refine .sl k4 k5 k3 k6 (k7.ext ee) fun _=>⟨_,rfl,rfl,?_,fun j v hv=>?_⟩
     ·show 0 + _ ≤ upd E.C b vs.length b
      rw [upd_same]; simp
     ·simpa using k8.cell hv
   ·cases e
  ·cases e
end Go.Mini
namespace Go.Mini
open Go
def inRange (k : IntKind) (n : Int) : Bool := decide (k.min ≤ n) && decide (n ≤ k.max)
def ofValue1 : Value→Option MV
 | .int k n=>if inRange k n then some (.int k n) else none
 | .bool b=>some (.bool b)
 | .string s=>if s.size < 2 ^ 62 then some (.str s.data.toList) else none
 | .slice none 0 0=>some .nilsl
 | .pointer none=>some .nilptr
 | .nilFunc=>some .nilfn
 | .nilIface=>some .nilif
 | _=>none
def ofValues : List Value→Option (List MV)
 | []=>some []
 | v :: r=>match ofValue1 v with
  | some x=>match ofValues r with
   | some l=>some (x :: l)
   | none=>none
  | none=>none
def ofValue : Value→Option MV
 | .agg cs=>(ofValues cs.toList).map .agg
 | v=>ofValue1 v
section
variable (P : Program) (tm : Nat→Bool) (hp : Option FuncId→Bool) (nt : Nat)
def trX : Operand→Option X
 | .tmp n=>some (if tm n then .t n else .v n)
 | .const v=>(ofValue v).map .c
 | .func f=>some (.c (.fn f []))
 | .global g=>if tm (1000000 + 2 * g) then some (.c (.cptr (tabL 0))) else if tm (1000001 + 2 * g) then some (.c (.cptr (tabL 1))) else none
def trXs : List Operand→Option (List X)
 | []=>some []
 | x :: r=>match trX tm x with
  | some y=>match trXs r with
   | some l=>some (y :: l)
   | none=>none
  | none=>none
def trO : Option Operand→Option (Option X)
 | none=>some none
 | some x=>(trX tm x).map some
def sizeT (t : TypeId) : Option Nat := (P.info? t).map (·.size)
def bytesT (t : TypeId) : Option Nat := (P.info? t).map (·.bytes)
def zeroT (t : TypeId) : Option MV := (P.info? t).bind fun i=>i.zero.bind ofValue
def aggT (t : TypeId) : Option Bool := match P.underlying t with
 | some (.struct _) | some (.array _ _)=>some true
 | some _=>some false
 | none=>none
def isByteT (t : TypeId) : Bool := match P.underlying t with
 | some (.int .u8)=>true
 | _=>false
def places (fs : List Field) : Option (List (Nat × Nat)) :=
 match fs with
 | []=>some []
 | f :: r=>match sizeT P f.type with
  | some s=>match places r with
   | some l=>some ((f.offset,s) :: l)
   | none=>none
  | none=>none
def trParts (pl : Nat→Option (Nat × Nat)) : List (Nat × Operand)→Option (List (Nat × Nat × X))
 | []=>some []
 | (i,x) :: r=>match pl i,trX tm x,trParts pl r with
  | some (off,size),some y,some l=>some ((off,size,y) :: l)
  | _,_,_=>none
def trIdx : List (Nat × Operand)→Option (List (Nat × X))
 | []=>some []
 | (i,x) :: r=>match trX tm x,trIdx r with
  | some y,some l=>some ((i,y) :: l)
  | _,_=>none
def trField (t : TypeId) (i : Nat) : Option Field := match P.underlying t with
 | some (.struct fs)=>fs[i]?
 | _=>none
def eqFieldsK : Nat→List Field→Option (List FK)
 | _,[]=>some []
 | i,f :: r=>if f.offset = i ∧ f.name ≠ "_" then match (match P.underlying f.type with
   | some (.int _)=>some FK.int
   | some .bool=>some FK.bool
   | some .string=>some FK.str
   | _=>none),eqFieldsK (i + 1) r with
  | some k,some l=>some (k :: l)
  | _,_=>none
 else none
def trEq (t : TypeId) : TypeDesc→Option EqK
 | .bool=>some .bool
 | .slice _=>some .slice
 | .pointer _=>some .ptr
 | .interface _=>some .iface
 | .func _ _ _=>some .fn
 | .struct fs=>if P.eqGuardType P.depth t = false ∧ P.stoodInHeld t = false then (match eqFieldsK P 0 fs.toList with | some ks=>some (.struct ks) | none=>none) else none
 | _=>none
def ifConst (k : EqK) (y : Operand) : Bool :=
 match k with
 | .iface=>match y with
  | .const _=>true
  | _=>false
 | _=>true
def isIntD : TypeDesc→Bool
 | .int _=>true
 | _=>false
def invT (t : TypeId) (name : String) : Option FuncId :=
 match P.info? t with
 | some i=>match i.methods.find? (·.name == name) with
  | some m=>if m.path.isEmpty then match m.func,P.underlying t with
    | some (_,false),some (.pointer _)=>none
    | some (f,false),some _=>some f
    | some (f,true),some (.pointer _)=>some f
    | _,_=>none
   else none
  | none=>none
 | none=>none
def invTable (name : String) : Nat→List (Nat × FuncId)
 | 0=>[]
 | t + 1=>match invT P t name with
  | some f=>(t,f) :: invTable name t
  | none=>invTable name t
def trOp (o : Oper) : Option MOp :=
 match o.op with
 | .move x | .assign x=>(trX tm x).map .mv
 | .pick c a b=>match trX tm c,trX tm a,trX tm b with
  | some c,some a,some b=>some (.pick c a b)
  | _,_,_=>none
 | .box _ x=>(trX tm x).map .box
 | .alloc t=>match zeroT P t with
  | some z=>some (.alloc z.cells)
  | none=>none
 | .build t ps=>match zeroT P t,P.underlying t with
  | some (.agg z),some (.struct fs)=>match places P fs.toList with
   | some pl=>match trParts tm (fun i=>pl[i]?) ps.toList with
    | some l=>some (.build z l)
    | none=>none
   | none=>none
  | some (.agg z),some (.array _ e)=>match sizeT P e with
   | some s=>match trParts tm (fun i=>some (i * s,s)) ps.toList with
    | some l=>some (.build z l)
    | none=>none
   | none=>none
  | _,_=>none
 | .buildSlice t n ps=>match P.underlying t with
  | some (.slice e) =>
   match sizeT P e,zeroT P e,trIdx tm ps.toList with
   | some s,some z,some l =>
    if 0 < s ∧ n * s ≤ 2 ^ 24 then
     if isByteT P e then (match z with | .int .u8 0=>if s = 1 then some (.bslB n l) else none | _=>none)
     else if z.cells.length = s then some (if hp (some 1000003) then .bslF s z n l else .bslE s z n l) else none
    else none
   | _,_,_=>none
  | _=>none
 | .load t x=>match trX tm x,aggT P t,sizeT P t with
  | some x,some a,some s=>some (.load a s x)
  | _,_,_=>none
 | .store t a v=>match trX tm a,trX tm v,sizeT P t with
  | some a,some v,some s=>some (.store s a v)
  | _,_,_=>none
 | .binOp op t x y0 _=>match trX tm x,trX tm y0,P.underlying t with
  | some x,some y,some (.int _)=>some (.bin op x y)
  | some x,some y,some .string=>some (.bin op x y)
  | some x,some y,some d=>match (match op with | .eql=>some false | .neq=>some true | _=>none),trEq P t d with
   | some n,some k=>if ifConst k y0 = true then some (.eqs k n x y) else none
   | _,_=>none
  | _,_,_=>none
 | .unOp op _ x=>(trX tm x).map (.un op)
 | .convert src dst x=>match P.underlying src,P.underlying dst,trX tm x with
  | some (.int _),some (.int k),some x=>some (.conv k x)
  | some .string,some .string,some x=>some (.same x)
  | some (.int _),some .string,some x=>some (.i2s x)
  | some .string,some (.slice e),some x=>if isByteT P e ∧ sizeT P e = some 1 then some (.s2b x) else none
  | some (.slice e),some .string,some x=>if isByteT P e then some (.b2s x) else none
  | some (.slice e),some (.slice _),some x=>if src = dst ∧ isByteT P e = true then some (.mark x) else none
  | _,_,_=>none
 | .fieldAddr t x i=>match trField P t i,trX tm x with
  | some f,some x=>(match sizeT P f.type with | some (_ + 1)=>some (.fad f.offset x) | _=>none)
  | _,_=>none
 | .field t x i=>match trField P t i,trX tm x with
  | some f,some x=>match aggT P f.type,sizeT P f.type with
   | some a,some s=>some (.fld a f.offset s x)
   | _,_=>none
  | _,_=>none
 | .indexAddr t x i=>match P.underlying t,trX tm x,trX tm i with
  | some (.slice e),some x,some i=>match sizeT P e with
   | some s=>if 0 < s then some (.iad s x i) else none
   | none=>none
  | some (.array n e),some x,some i=>match sizeT P e with
   | some s=>some (.aad s n x i)
   | none=>none
  | _,_,_=>none
 | .index t x i=>match P.underlying t,trX tm x,trX tm i with
  | some .string,some x,some i=>some (.idxS x i)
  | some (.array n e),some x,some i=>match aggT P e,sizeT P e with
   | some a,some s=>some (.idxA a s n x i)
   | _,_=>none
  | _,_,_=>none
 | .slice t x lo hi none=>match P.underlying t,trX tm x,trO tm lo,trO tm hi with
  | some .string,some x,some lo,some hi=>some (.slc true 1 x lo hi)
  | some (.slice e),some x,some lo,some hi=>match sizeT P e with
   | some (s + 1)=>some (.slc false (s + 1) x lo hi)
   | _=>none
  | _,_,_,_=>none
 | .slice t x none (some hh) (some mm)=>match P.underlying t,trX tm x,trX tm hh,trX tm mm with
  | some (.slice e),some x,some hh,some mm=>match sizeT P e with
   | some (s + 1)=>some (.cutF (s + 1) x hh mm)
   | _=>none
  | _,_,_,_=>none
 | .extract x i=>(trX tm x).map (.ext i)
 | .call { callee := .value (.func f),args,.. }=>match trXs tm args.toList with
  | some l=>some (if hp (some f) then .callh f l else .call f l)
  | none=>none
 | .call { callee := .value x,args,.. }=>match trX tm x,trXs tm args.toList with
  | some x,some l=>some (if hp none then .callvh x l else .callv x l)
  | _,_=>none
 | .call { callee := .invoke x name,args,.. }=>match trX tm x,trXs tm args.toList with
  | some x,some l=>some (.inv (hp none) (invTable P name P.types.size) x l)
  | _,_=>none
 | .call { callee := .builtin .len,args,argTypes }=>match args.toList,argTypes.toList with
  | [x],t :: _=>match trX tm x,P.underlying t with
   | some x,some .string=>some (.len true x)
   | some x,some (.slice _)=>some (.len false x)
   | _,_=>none
  | _,_=>none
 | .call { callee := .builtin .append,args,argTypes }=>match args.toList,argTypes.toList with
  | [d,x],[t,u]=>match trX tm d,trX tm x,P.underlying t,P.underlying u with
   | some d,some x,some (.slice e),some du =>
    match sizeT P e,bytesT P e,zeroT P e with
    | some s,some w,some z =>
     if isIntD du = true then (if 0 < s ∧ 0 < w ∧ z.cells.length = s ∧ isByteT P e = false then some (.appZ s w z d x) else none)
     else if isIntD du = false ∧ 0 < s ∧ 0 < w ∧ z.cells.length = s ∧ (isByteT P e = true→s = 1) then some (.app (isByteT P e) s w d x) else none
    | _,_,_=>none
   | _,_,_,_=>none
  | _,_=>none
 | .call { callee := .builtin .min,args,.. }=>match trXs tm args.toList with
  | some l=>some (.minmax false l)
  | none=>none
 | .call { callee := .builtin .max,args,.. }=>match trXs tm args.toList with
  | some l=>some (.minmax true l)
  | none=>none
 | .range t x=>match trX tm x,P.underlying t with
  | some x,some .string=>some (.rng x)
  | _,_=>none
 | .next x true=>(trX tm x).map .nxt
 | .nilCheck x=>(trX tm x).map .nilck
 | .makeFunc (.func f) first caps=>match first.toList,trXs tm caps.toList with
  | [],some l=>some (.mkfn f l)
  | _,_=>none
 | .makeInterface t x=>match trX tm x,P.underlying t with
  | some _,some (.interface _)=>none
  | some x,some _=>some (.mkif t x)
  | _,_=>none
 | .makeSlice t n c=>match P.underlying t,trX tm n,trX tm c with
  | some (.slice e),some n,some c=>match sizeT P e,bytesT P e,zeroT P e with
   | some s,some w,some z =>
    if 0 < s then
     if isByteT P e then (match z with | .int .u8 0=>if s = 1 ∧ w = 1 then some (.mksB n c) else none | _=>none)
     else if z.cells.length = s then some (.mksE s w z n c) else none
    else none
   | _,_,_=>none
  | _,_,_=>none
 | _=>none
def trDst : Option Tmp→Option (Option X)
 | none=>some none
 | some n=>if n < nt then some (some (if tm n then .t n else .v n)) else none
def trOpB (o : Oper) : MOp := match trOp P tm hp o with
 | some op=>op
 | none=>.bad
def trOper (ops : Array Oper) (o : Oper) : Option MOper :=
 match trDst tm nt o.dst,(match o.guard with
  | none=>some none
  | some (j,w)=>match (ops[j]?).bind (·.dst) with
   | some d=>some (some ((if tm d then .t d else .v d : X),w))
   | none=>none) with
 | some d,some g=>some ⟨d,trOpB P tm hp o,g⟩
 | _,_=>none
def trOpers (ops : Array Oper) : List Oper→Option (List MOper)
 | []=>some []
 | o :: r=>match trOper P tm hp nt ops o with
  | some y=>match trOpers ops r with
   | some l=>some (y :: l)
   | none=>none
  | none=>none
def bindsAny (e : Edge) : Bool := Region.binds .any e
def preOK1 (pre : List (List Nat)) (i : Nat) (o : Oper) : Bool :=
 (o.after.toList.all fun e=>!bindsAny e || decide (e.on < i)) &&
 ((preOf pre i).all fun k=>o.after.toList.any fun e=>bindsAny e && (decide (e.on = k) || has (preOf pre e.on) k))
def preOKs (pre : List (List Nat)) : Nat→List Oper→Bool
 | _,[]=>true
 | i,o :: os=>preOK1 pre i o && preOKs pre (i + 1) os
def keepB (k : Nat × KMode) : Bool := match k.2 with
 | .inh=>true
 | .ownE s=>decide (k.1 < nt) && !tm k.1 && decide (0 < s)
 | _=>decide (k.1 < nt) && !tm k.1
def trCode : Code→MCode→Prop
 | .skip,.skip=>True
 | .label _,.skip=>True
 | .region _ ops false,.rg l=>trOpers P tm hp nt ops ops.toList = some l
 | .region _ ops true,.rgd l pre=>trOpers P tm hp nt ops ops.toList = some l ∧ preOKs pre 0 ops.toList = true ∧ P.follows .mixedOrders = true
 | .seq a b,.seq a' b'=>trCode a a' ∧ trCode b b'
 | .cond c a b,.cond c' a' b'=>trX tm c = some c' ∧ trCode a a' ∧ trCode b b'
 | .block i b,.block j b'=>i = j ∧ trCode b b'
 | .loop b,.loop keep b'=>keep.all (keepB tm nt) = true ∧ trCode b b'
 | .exit i,.exit j=>i = j
 | .scope b,.scope b'=>trCode b b'
 | .ret,.ret=>True
 | _,.bad=>True
 | _,_=>False
end
end Go.Mini
namespace Go.Mini
open Go Go.RowKit
theorem ofValue1_rel {E v x} (h : ofValue1 v = some x) : RelV E x v ∧ x.cell = true ∧ Pure x := by
 unfold ofValue1 at h
 split at h
 ·split at h
  ·rename_i k n hr
   cases h
   simp only [inRange,Bool.and_eq_true,decide_eq_true_eq] at hr
   exact ⟨.int hr.1 hr.2,rfl,.int⟩
  ·cases h
 ·cases h; exact ⟨.bool,rfl,.bool⟩
 ·rename_i s
  split at h
  ·rename_i hs
   cases h
   exact ⟨.str (by simpa using hs),rfl,.str⟩
  ·cases h
 ·cases h; exact ⟨.nilsl,rfl,.nilsl⟩
 ·cases h; exact ⟨.nilptr,rfl,.nilptr⟩
 ·cases h; exact ⟨.nilfn,rfl,.nilfn⟩
 ·cases h; exact ⟨.nilif,rfl,.nilif⟩
 ·cases h
theorem ofValues_rel {E} : ∀ {vs : List Value} {l : List MV},ofValues vs = some l→RelL E l vs ∧ ∀ c ∈ l,c.cell = true ∧ Pure c
 | [],l,h=>by simp [ofValues] at h; subst h; exact ⟨.nil,by simp⟩
 | v :: vs,l,h=>by
  simp only [ofValues] at h
  split at h
  ·rename_i x hx
   split at h
   ·rename_i l' hl
    cases h
    obtain ⟨a,b,c⟩ := ofValue1_rel (E := E) hx
    obtain ⟨d,e⟩ := ofValues_rel (E := E) hl
    exact ⟨.cons a d,fun y hy=>by rcases List.mem_cons.1 hy with rfl | hy; exact ⟨b,c⟩; exact e y hy⟩
   ·cases h
  ·cases h
theorem ofValue_rel {E v x} (h : ofValue v = some x) : RelV E x v ∧ Pure x ∧ x.fit = true := by
 have one : ∀ {v x},ofValue1 v = some x→RelV E x v ∧ Pure x ∧ x.fit = true := by
  intro v x h
  obtain ⟨a,b,c⟩ := ofValue1_rel (E := E) h
  refine ⟨a,c,?_⟩
  cases x <;> first | rfl | cases b
 unfold ofValue at h
 split at h
 ·rename_i cs
  cases hl : ofValues cs.toList with
  | none=>rw [hl] at h; cases h
  | some l =>
   rw [hl] at h
   cases h
   obtain ⟨a,b⟩ := ofValues_rel (E := E) hl
   exact ⟨.agg a b,.agg fun e he=>(b e he).2,rfl⟩
 ·exact one h
variable {P : Program} {own : Nat→Prop} {tm : Nat→Bool} {E : Env} {st : DS} {a : Act}
theorem tabZ_rng (k : Nat) (hk : k < 2) : ∀ z ∈ tabZ k,0 ≤ z ∧ z ≤ 255 := by
 have h : (tabZ k).all (fun z=>decide (0 ≤ z) && decide (z ≤ 255)) = true := by
  have : k = 0 ∨ k = 1 := by omega
  rcases this with rfl | rfl <;> decide +kernel
 intro z hz
 simpa using List.all_eq_true.1 h z hz
theorem relZ {E : Env} : ∀ {zs : List Int},(∀ z ∈ zs,0 ≤ z ∧ z ≤ 255)→RelL E (zs.map (.int .u8)) (zs.map (.int .u8))
 | [],_=>.nil
 | z :: zs,h=>.cons (.int (h z (by simp)).1 (h z (by simp)).2) (relZ fun z hz=>h z (by simp [hz]))
theorem rd_ok (hi : Inv own tm E st a.tmps) {x : Operand} {y : X} (hx : trX tm x = some y) : RelV E (st.rd y) (a.eval x) := by
 cases x with
 | tmp n =>
  simp only [trX,Option.some.injEq] at hx
  subst hx
  by_cases ht : tm n = true
  ·simp only [ht,if_true,DS.rd]
   cases hl : look st.T n with
   | none=>exact .undef
   | some v =>
    obtain ⟨_,z,hz,hr⟩ := hi.T n v hl
    have : a.eval (.tmp n) = z := by simp [Act.eval,Array.getD_eq_getD_getElem?,hz]
    rw [this]; exact hr
  ·simp only [ht,if_false,DS.rd,Bool.false_eq_true]
   cases hl : look st.V n with
   | none=>exact .undef
   | some v =>
    obtain ⟨_,z,hz,hr⟩ := hi.V n v hl
    have : a.eval (.tmp n) = z := by simp [Act.eval,Array.getD_eq_getD_getElem?,hz]
    rw [this]; exact hr
 | const v =>
  simp only [trX] at hx
  cases hv : ofValue v with
  | none=>rw [hv] at hx; cases hx
  | some z=>rw [hv] at hx; cases hx; exact (ofValue_rel hv).1
 | func f =>
  simp only [trX,Option.some.injEq] at hx
  subst hx
  exact .fn .nil
 | global g =>
  simp only [trX] at hx
  have tab : ∀ k,k < 2→tm (1000000 + k + 2 * g) = true→RelV E (.cptr (tabL k)) (a.eval (.global g)) := fun k hk ht =>
   .cptr (relZ (tabZ_rng k hk)) (fun c hc=>by
    obtain ⟨z,_,rfl⟩ := List.mem_map.1 hc
    exact ⟨rfl,.int⟩) (hi.tabs k g hk ht)
  split at hx
  ·rename_i ht; cases hx; exact tab 0 (by omega) ht
  ·split at hx
   ·rename_i ht; cases hx; exact tab 1 (by omega) ht
   ·cases hx
theorem rds_ok (hi : Inv own tm E st a.tmps) : ∀ {xs : List Operand} {ys : List X},trXs tm xs = some ys→RelL E (ys.map st.rd) (xs.map a.eval)
 | [],ys,h=>by simp [trXs] at h; subst h; exact .nil
 | x :: xs,ys,h=>by
  simp only [trXs] at h
  split at h
  ·rename_i y hy
   split at h
   ·rename_i l hl
    cases h
    exact .cons (rd_ok hi hy) (rds_ok hi hl)
   ·cases h
  ·cases h
def OpOK (P : Program) (own : Nat→Prop) (tm : Nat→Bool) (nm : Nat) (E : Env) (a : Act) (o : Oper) (st' : DS) (v : MV) : Prop :=
 ∀ (next : Act→World→Prop) (Q : Exit→Act→World→Prop),
  (∀ E' x,Move own E E'→(∀ p,E'.born p→E.born p ∨ (nm ≤ p ∧ p < nm + 4))→Inv own tm E' st' a.tmps→RelV E' v x→next (a.put o.dst x) E'.w)→o.wp P a E.w next Q
variable {nm : Nat} {o : Oper}
theorem OpOK.val {E' : Env} {st' : DS} {v : MV} {x : Value} (hrun : (execOp a.eval o).run P E.w = .ok (.value x) E'.w) (mv : Move own E E')
  (hb : ∀ p,E'.born p→E.born p ∨ (nm ≤ p ∧ p < nm + 4)) (inv : Inv own tm E' st' a.tmps) (hr : RelV E' v x) : OpOK P own tm nm E a o st' v := by
 intro next Q hn
 unfold Oper.wp
 rw [hrun]
 exact hn E' x mv hb inv hr
theorem OpOK.skip {E' : Env} {st' : DS} (hrun : (execOp a.eval o).run P E.w = .ok .skip E'.w) (mv : Move own E E')
  (hb : ∀ p,E'.born p→E.born p ∨ (nm ≤ p ∧ p < nm + 4)) (inv : Inv own tm E' st' a.tmps) : OpOK P own tm nm E a o st' .undef := by
 intro next Q hn
 unfold Oper.wp
 rw [hrun]
 exact hn E' Go.undef mv hb inv .undef
theorem OpOK.same {v : MV} {x : Value} (hi : Inv own tm E st a.tmps) (hrun : (execOp a.eval o).run P E.w = .ok (.value x) E.w) (hr : RelV E v x) : OpOK P own tm nm E a o st v :=
 OpOK.val hrun (Move.refl _ _) (fun _ h=>.inl h) hi hr
theorem op_mv (hi : Inv own tm E st a.tmps) {x : Operand} {y : X} (hx : trX tm x = some y) (ho : o.op = .move x ∨ o.op = .assign x) : OpOK P own tm nm E a o st (st.rd y) := by
 refine OpOK.same hi (x := a.eval x) ?_ (rd_ok hi hx)
 unfold execOp
 rcases ho with h | h <;> rw [h] <;> rfl
theorem op_pick (hi : Inv own tm E st a.tmps) {c x y : Operand} {c' x' y' : X} (hc : trX tm c = some c') (hx : trX tm x = some x') (hy : trX tm y = some y') (ho : o.op = .pick c x y)
  {t : Bool} (ht : st.rd c' = .bool t) : OpOK P own tm nm E a o st (if t then st.rd x' else st.rd y') := by
 have h := rd_ok hi hc
 rw [ht] at h
 generalize hz : a.eval c = z at h
 cases h
 refine OpOK.same hi (x := if t then a.eval x else a.eval y) ?_ ?_
 ·unfold execOp
  rw [ho]
  simp [hz,asBool]
 ·cases t
  ·exact rd_ok hi hy
  ·exact rd_ok hi hx
theorem wrap_range (k : IntKind) (n : Int) : k.min ≤ k.wrap n ∧ k.wrap n ≤ k.max := by
 cases k <;> simp [IntKind.wrap,IntKind.min,IntKind.max,IntKind.signed,IntKind.bits] <;> (try split) <;> omega
theorem tmod_range {k : IntKind} {x y : Int} (h0 : k.min ≤ x) (h1 : x ≤ k.max) (hy : y ≠ 0) : k.min ≤ x.tmod y ∧ x.tmod y ≤ k.max := by
 have hm : k.min ≤ 0 ∧ 0 ≤ k.max := by cases k <;> simp [IntKind.min,IntKind.max,IntKind.signed,IntKind.bits]
 rcases Int.le_total 0 x with h | h
 ·have a := Int.tmod_nonneg y h
  have b : x.tmod y ≤ x := by
   have := Int.tmod_add_mul_tdiv x y
   have h2 : 0 ≤ y * x.tdiv y := by
    rcases Int.lt_or_gt_of_ne hy with hy | hy
    ·have := Int.tdiv_nonpos_of_nonneg_of_nonpos h (Int.le_of_lt hy)
     exact Int.mul_nonneg_of_nonpos_of_nonpos (Int.le_of_lt hy) this
    ·exact Int.mul_nonneg (Int.le_of_lt hy) (Int.tdiv_nonneg h (Int.le_of_lt hy))
   omega
  omega
 ·have a : x.tmod y ≤ 0 := by
   have := Int.tmod_nonneg y (a := -x) (by omega)
   rw [Int.neg_tmod] at this; omega
  have b : x ≤ x.tmod y := by
   have := Int.tmod_add_mul_tdiv x y
   have h2 : y * x.tdiv y ≤ 0 := by
    have e : x.tdiv y = - ((-x).tdiv y) := by rw [Int.neg_tdiv]; omega
    rw [e]
    rcases Int.lt_or_gt_of_ne hy with hy | hy
    ·have := Int.tdiv_nonpos_of_nonneg_of_nonpos (a := -x) (by omega) (Int.le_of_lt hy)
     exact Int.mul_nonpos_of_nonpos_of_nonneg (Int.le_of_lt hy) (by omega)
    ·have := Int.tdiv_nonneg (a := -x) (by omega) (Int.le_of_lt hy)
     exact Int.mul_nonpos_of_nonneg_of_nonpos (Int.le_of_lt hy) (by omega)
   omega
  omega
theorem fdiv_range {k : IntKind} {x : Int} (h0 : k.min ≤ x) (h1 : x ≤ k.max) (n : Nat) : k.min ≤ x.fdiv (2 ^ n) ∧ x.fdiv (2 ^ n) ≤ k.max := by
 have hm : k.min ≤ 0 ∧ 0 ≤ k.max := by cases k <;> simp [IntKind.min,IntKind.max,IntKind.signed,IntKind.bits]
 have hp : (0 : Int) < 2 ^ n := Int.pow_pos (by omega)
 rw [Int.fdiv_eq_ediv_of_nonneg _ (Int.le_of_lt hp)]
 rcases Int.le_total 0 x with h | h
 ·have a := Int.ediv_nonneg h (Int.le_of_lt hp)
  have b : x / 2 ^ n ≤ x := Int.ediv_le_self _ h
  omega
 ·have a : x / 2 ^ n ≤ 0 := by
   by_cases h' : 0 < x / 2 ^ n
   case neg=>omega
   ·have h3 := Int.mul_ediv_add_emod x (2 ^ n)
    have h4 := Int.emod_nonneg x (Int.ne_of_gt hp)
    have := Int.mul_pos hp h'
    omega
  have b : x ≤ x / 2 ^ n := by
   have h3 := Int.mul_ediv_add_emod x (2 ^ n)
   have h4 := Int.emod_nonneg x (Int.ne_of_gt hp)
   have h5 := Int.emod_lt_of_pos x hp
   by_cases hx : x / 2 ^ n = 0
   ·omega
   ·have : 2 ^ n * (x / 2 ^ n) ≤ x / 2 ^ n := by
     have : (2 ^ n - 1) * (x / 2 ^ n) ≤ 0 := Int.mul_nonpos_of_nonneg_of_nonpos (by omega) a
     have e : (2 ^ n - 1) * (x / 2 ^ n) = 2 ^ n * (x / 2 ^ n) - x / 2 ^ n := by rw [Int.sub_mul]; omega
     omega
    by_cases hq : x / 2 ^ n ≤ -1
    ·have : 2 ^ n * (x / 2 ^ n) + x % 2 ^ n = x := h3
     have h6 : (2 ^ n - 1) * (x / 2 ^ n) ≤ (2 ^ n - 1) * (-1) := Int.mul_le_mul_of_nonneg_left hq (by omega)
     have e : (2 ^ n - 1) * (x / 2 ^ n) = 2 ^ n * (x / 2 ^ n) - x / 2 ^ n := by rw [Int.sub_mul]; omega
     omega
    ·omega
  omega
end Go.Mini
namespace Go.Mini
open Go Go.RowKit
variable {P : Program} {own : Nat→Prop} {tm : Nat→Bool} {E : Env} {st : DS} {a : Act} {nm : Nat} {o : Oper}
def Gives (P : Program) (E : Env) (s : Sem Value) (v : MV) : Prop := ∃ x,s.run P E.w = .ok x E.w ∧ RelV E v x
theorem OpOK.gives {v : MV} {s : Sem Value} (hi : Inv own tm E st a.tmps) (h : Gives P E s v) (he : execOp a.eval o = (do pure (.value (← s)))) : OpOK P own tm nm E a o st v := by
 obtain ⟨x,hx,hr⟩ := h
 refine OpOK.same hi (x := x) ?_ hr
 rw [he]; simp [hx]
theorem eqGuard_run (op : BinOp) (t : TypeId) (x y : Operand) {a b : Value} (w : World) (h : a ≠ .nilIface ∨ b ≠ .nilIface) (h2 : ∀ c,a ≠ .agg c) : (eqGuard op t x y a b).run P w = .ok () w := by
 unfold eqGuard
 cases a <;> cases b <;> cases op <;> simp_all
theorem bin_int {op : BinOp} {t : TypeId} {k : IntKind} {x y : Int} {v : MV} (hs : isShift op = false) (h : binI op k x y = some v) (hx0 : k.min ≤ x) (hx1 : x ≤ k.max) :
  Gives P E (Go.binOp op t (.int k x) (.int k y)) v := by
 cases op <;> simp only [binI,isShift,Option.some.injEq,reduceCtorEq] at h hs
 case add=>subst h; exact ⟨_,by simp [Go.binOp,Op.intArith],.int (wrap_range _ _).1 (wrap_range _ _).2⟩
 case sub=>subst h; exact ⟨_,by simp [Go.binOp,Op.intArith],.int (wrap_range _ _).1 (wrap_range _ _).2⟩
 case mul=>subst h; exact ⟨_,by simp [Go.binOp,Op.intArith],.int (wrap_range _ _).1 (wrap_range _ _).2⟩
 case quo =>
  split at h
  ·cases h
  ·rename_i hy; cases h; exact ⟨_,by simp [Go.binOp,Op.intDiv,hy],.int (wrap_range _ _).1 (wrap_range _ _).2⟩
 case rem =>
  split at h
  ·cases h
  ·rename_i hy; cases h; exact ⟨_,by simp [Go.binOp,Op.intDiv,hy],.int (tmod_range hx0 hx1 hy).1 (tmod_range hx0 hx1 hy).2⟩
 case and=>subst h; exact ⟨_,by simp [Go.binOp,Op.intBits],.int (wrap_range _ _).1 (wrap_range _ _).2⟩
 case or=>subst h; exact ⟨_,by simp [Go.binOp,Op.intBits],.int (wrap_range _ _).1 (wrap_range _ _).2⟩
 case xor=>subst h; exact ⟨_,by simp [Go.binOp,Op.intBits],.int (wrap_range _ _).1 (wrap_range _ _).2⟩
 case andNot=>subst h; exact ⟨_,by simp [Go.binOp,Op.intBits],.int (wrap_range _ _).1 (wrap_range _ _).2⟩
 case eql=>subst h; exact ⟨_,by simp [Go.binOp,Op.intCmp],.bool⟩
 case neq=>subst h; exact ⟨_,by simp [Go.binOp,Op.intCmp],.bool⟩
 case lss=>subst h; exact ⟨_,by simp [Go.binOp,Op.intCmp],.bool⟩
 case leq=>subst h; exact ⟨_,by simp [Go.binOp,Op.intCmp],.bool⟩
 case gtr=>subst h; exact ⟨_,by simp [Go.binOp,Op.intCmp],.bool⟩
 case geq=>subst h; exact ⟨_,by simp [Go.binOp,Op.intCmp],.bool⟩
theorem bin_shift {op : BinOp} {t : TypeId} {k k' : IntKind} {x y : Int} {v : MV} (hs : isShift op = true) (h : shiftI op k x y = some v) (hx0 : k.min ≤ x) (hx1 : x ≤ k.max) :
  Gives P E (Go.binOp op t (.int k x) (.int k' y)) v := by
 cases op <;> simp only [isShift,Bool.false_eq_true] at hs
 case shl =>
  simp only [shiftI] at h
  split at h
  ·cases h
  ·rename_i hy; cases h; exact ⟨_,by simp [Go.binOp,Op.shift,hy],.int (wrap_range _ _).1 (wrap_range _ _).2⟩
 case shr =>
  simp only [shiftI] at h
  split at h
  ·cases h
  ·rename_i hy; cases h; exact ⟨_,by simp [Go.binOp,Op.shift,hy],.int (fdiv_range hx0 hx1 _).1 (fdiv_range hx0 hx1 _).2⟩
theorem lessB_eq : ∀ a b,lessB a b = Op.bytesLess a b
 | _,[]=>by cases ‹List UInt8› <;> rfl
 | [],_ :: _=>rfl
 | a :: x,b :: y=>by simp [lessB,Op.bytesLess,lessB_eq x y]
theorem bin_str {op : BinOp} {t : TypeId} {x y : List UInt8} {v : MV} (h : binS op x y = some v) : Gives P E (Go.binOp op t (.string ⟨x.toArray⟩) (.string ⟨y.toArray⟩)) v := by
 cases op <;> simp only [binS,Option.some.injEq,reduceCtorEq] at h
 case add =>
  split at h
  ·rename_i hl
   cases h
   refine ⟨_,?_,.str (by simpa using hl)⟩
   have e : (⟨x.toArray⟩ ++ ⟨y.toArray⟩ : ByteArray) = ⟨(x ++ y).toArray⟩ := by
    apply ByteArray.ext; simp
   have : ¬ (((x.length + y.length : Nat) : Int) > IntKind.i64.max) := by simp [IntKind.max,IntKind.signed,IntKind.bits]; omega
   simp only [Go.binOp,Op.stringOp,ByteArray.size,List.size_toArray,if_neg this,e,Sem.run_pure]
  ·cases h
 case eql=>subst h; exact ⟨_,by simp [Go.binOp,Op.stringOp],.bool⟩
 case neq=>subst h; exact ⟨_,by simp [Go.binOp,Op.stringOp],.bool⟩
 case lss=>subst h; exact ⟨_,by simp [Go.binOp,Op.stringOp,lessB_eq],.bool⟩
 case leq=>subst h; exact ⟨_,by simp [Go.binOp,Op.stringOp,lessB_eq],.bool⟩
 case gtr=>subst h; exact ⟨_,by simp [Go.binOp,Op.stringOp,lessB_eq],.bool⟩
 case geq=>subst h; exact ⟨_,by simp [Go.binOp,Op.stringOp,lessB_eq],.bool⟩
theorem op_bin (hi : Inv own tm E st a.tmps) {op : BinOp} {t t' : TypeId} {x y : Operand} {x' y' : X} (hx : trX tm x = some x') (hy : trX tm y = some y') (ho : o.op = .binOp op t x y t')
  {v : MV} (h : binV op (st.rd x') (st.rd y') = some v) : OpOK P own tm nm E a o st v := by
 have rx := rd_ok hi hx
 have ry := rd_ok hi hy
 generalize st.rd x' = mx at h rx
 generalize st.rd y' = my at h ry
 refine OpOK.gives hi (s := (do eqGuard op t x y (a.eval x) (a.eval y); Go.binOp op t (a.eval x) (a.eval y))) ?_ (by unfold execOp; rw [ho])
 generalize a.eval x = vx at rx
 generalize a.eval y = vy at ry
 unfold binV at h
 split at h
 ·rename_i k p k' q
  cases rx with
  | int h0 h1 =>
  cases ry with
  | int h2 h3 =>
  have hg : Gives P E (Go.binOp op t (.int k p) (.int k' q)) v := by
   split at h
   ·rename_i hs; exact bin_shift hs h h0 h1
   ·rename_i hs
    split at h
    ·rename_i hk; subst hk; exact bin_int (by simpa using hs) h h0 h1
    ·cases h
  obtain ⟨z,hz,hr⟩ := hg
  exact ⟨z,by rw [Sem.run_bind,eqGuard_run _ _ _ _ _ (.inl (by simp)) (by simp)]; exact hz,hr⟩
 ·rename_i p q
  cases rx with
  | str h0 =>
  cases ry with
  | str h1 =>
  obtain ⟨z,hz,hr⟩ := bin_str (P := P) (E := E) (t := t) h
  exact ⟨z,by rw [Sem.run_bind,eqGuard_run _ _ _ _ _ (.inl (by simp)) (by simp)]; exact hz,hr⟩
 ·cases h
theorem op_un (hi : Inv own tm E st a.tmps) {op : UnOp} {t : TypeId} {x : Operand} {x' : X} (hx : trX tm x = some x') (ho : o.op = .unOp op t x)
  {v : MV} (h : unV op (st.rd x') = some v) : OpOK P own tm nm E a o st v := by
 have rx := rd_ok hi hx
 generalize st.rd x' = mx at h rx
 refine OpOK.gives hi (s := Op.unary op (a.eval x)) ?_ (by unfold execOp; rw [ho])
 generalize a.eval x = vx at rx
 unfold unV at h
 split at h
 ·cases h; cases rx; exact ⟨_,rfl,.bool⟩
 ·cases h; cases rx; exact ⟨_,rfl,.int (wrap_range _ _).1 (wrap_range _ _).2⟩
 ·cases h; cases rx; exact ⟨_,rfl,.int (wrap_range _ _).1 (wrap_range _ _).2⟩
 ·cases h
theorem op_conv (hi : Inv own tm E st a.tmps) {s d : TypeId} {x : Operand} {x' : X} (hx : trX tm x = some x') (ho : o.op = .convert s d x) {k k' : IntKind} (hs : P.underlying s = some (.int k')) (hd : P.underlying d = some (.int k))
  {q : IntKind} {n : Int} (h : st.rd x' = .int q n) : OpOK P own tm nm E a o st (.int k (k.wrap n)) := by
 have rx := rd_ok hi hx
 rw [h] at rx
 refine OpOK.gives hi (s := Go.convert s d (a.eval x)) ?_ (by unfold execOp; rw [ho])
 generalize a.eval x = vx at rx
 cases rx
 refine ⟨.int k (k.wrap n),?_,.int (wrap_range _ _).1 (wrap_range _ _).2⟩
 simp [Go.convert,underlying,hs,hd,Conv.intToInt]
theorem op_same (hi : Inv own tm E st a.tmps) {s d : TypeId} {x : Operand} {x' : X} (hx : trX tm x = some x') (ho : o.op = .convert s d x) (hs : P.underlying s = some .string) (hd : P.underlying d = some .string)
  {l : List UInt8} (h : st.rd x' = .str l) : OpOK P own tm nm E a o st (.str l) := by
 have rx := rd_ok hi hx
 rw [h] at rx
 refine OpOK.gives hi (s := Go.convert s d (a.eval x)) ?_ (by unfold execOp; rw [ho])
 generalize a.eval x = vx at rx
 cases rx
 rename_i hl
 exact ⟨_,by simp [Go.convert,underlying,hs,hd],.str hl⟩
theorem op_i2s (hi : Inv own tm E st a.tmps) {s d : TypeId} {x : Operand} {x' : X} (hx : trX tm x = some x') (ho : o.op = .convert s d x) {k : IntKind} (hs : P.underlying s = some (.int k)) (hd : P.underlying d = some .string)
  {q : IntKind} {n : Int} (h : st.rd x' = .int q n) (hn : 0 ≤ n ∧ n < 128) : OpOK P own tm nm E a o st (.str [UInt8.ofNat n.toNat]) := by
 have rx := rd_ok hi hx
 rw [h] at rx
 refine OpOK.gives hi (s := Go.convert s d (a.eval x)) ?_ (by unfold execOp; rw [ho])
 generalize a.eval x = vx at rx
 cases rx
 have hv : Utf8.valid n = true := by unfold Utf8.valid; simp; left; omega
 have h8 : n.toNat < 0x80 := by omega
 refine ⟨.string ⟨#[UInt8.ofNat n.toNat]⟩,?_,.str (by simp)⟩
 have he : Utf8.encode n = ⟨#[UInt8.ofNat n.toNat]⟩ := by simp only [Utf8.encode,hv,if_true,if_pos h8]
 simp [Go.convert,underlying,hs,hd,Conv.intToString,he]
theorem op_ext (hi : Inv own tm E st a.tmps) {x : Operand} {i : Nat} {x' : X} (hx : trX tm x = some x') (ho : o.op = .extract x i) {l : List MV} {v : MV} (h : st.rd x' = .tup l) (hv : l[i]? = some v) : OpOK P own tm nm E a o st v := by
 have rx := rd_ok hi hx
 rw [h] at rx
 refine OpOK.gives hi (s := Instr.extract (a.eval x) i) ?_ (by unfold execOp; rw [ho])
 generalize a.eval x = vx at rx
 cases rx with
 | tup hr =>
  obtain ⟨y,hy,hr⟩ := hr.get hv
  exact ⟨y,by simp [Instr.extract,hy],hr⟩
theorem hdr_live (hi : Inv own tm E st a.tmps) {p n : Nat} (h : live p n st = true) : E.len p = some n ∧ n < 2 ^ 62 ∧ (∃ ad cap,hdr E p n = .slice ad n cap ∧ n ≤ cap) := by
 unfold live at h
 split at h
 ·rename_i l b hl
  have hn := of_decide_eq_true h
  subst hn
  refine ⟨by rw [hi.len,hl]; rfl,?_⟩
  have ok := hi.objs p _ hl
  unfold hdr
  cases ok with
  | byt0 k1=>rw [k1]; exact ⟨by decide,none,0,rfl,Nat.le_refl _⟩
  | byt k1 k2 k3 k4=>rw [k1]; exact ⟨k4,_,_,rfl,k3⟩
 ·rename_i s l b hl
  have hn := of_decide_eq_true h
  subst hn
  refine ⟨by rw [hi.len,hl]; rfl,?_⟩
  have ok := hi.objs p _ hl
  unfold hdr
  cases ok with
  | el0 k1=>rw [k1]; exact ⟨by decide,none,0,rfl,Nat.le_refl _⟩
  | el k1 k2 k3 k4 k5=>rw [k1]; exact ⟨k5,_,_,rfl,k4⟩
 ·cases h
theorem big_int {n : Nat} (hn : n < 2 ^ 62) : RelV E (.int .i64 n) (.int .i64 n) :=
 .int (by simp [IntKind.min,IntKind.signed,IntKind.bits]) (by simp [IntKind.max,IntKind.signed,IntKind.bits]; omega)
theorem op_len (hi : Inv own tm E st a.tmps) {args : Array Operand} {ats : Array TypeId} {x : Operand} {t : TypeId} {x' : X} (hx : trX tm x = some x') (ho : o.op = .call { callee := .builtin .len,args,argTypes := ats })
  (ha : args.toList = [x]) (ht : ats[0]? = some t) {str : Bool} (hu : match str with | true=>P.underlying t = some .string | false=>∃ e,P.underlying t = some (.slice e)) {v : MV} (h : lenV str (st.rd x') st = some v) : OpOK P own tm nm E a o st v := by
 have rx := rd_ok hi hx
 obtain rfl : args = #[x] := by rw [← Array.toList_inj]; simpa using ha
 refine OpOK.gives hi (s := Builtin.len_ ats o.type #[a.eval x]) ?_ (by unfold execOp; rw [ho]; simp [resolve,invoke,builtin])
 generalize st.rd x' = mx at h rx
 generalize a.eval x = vx at rx
 unfold lenV at h
 split at h
 ·cases h
  cases rx with
  | str hl=>exact ⟨.int .i64 (List.length _),by simp [Builtin.len_,ht,underlying,hu,goInt]; rfl,big_int hl⟩
 ·cases h
  obtain ⟨e,hu⟩ := hu
  cases rx with
  | bs hc hl=>exact ⟨.int .i64 (List.length _),by simp [Builtin.len_,ht,underlying,hu,goInt],big_int hl⟩
 ·cases h
  obtain ⟨e,hu⟩ := hu
  cases rx with
  | sl hc hl=>exact ⟨.int .i64 (List.length _),by simp [Builtin.len_,ht,underlying,hu,goInt],big_int hl⟩
 ·cases h
  obtain ⟨e,hu⟩ := hu
  cases rx with
  | fsl rx=>cases rx with
   | sl hc hl=>exact ⟨.int .i64 (List.length _),by simp [Builtin.len_,ht,underlying,hu,goInt],big_int hl⟩
 ·cases h
  obtain ⟨e,hu⟩ := hu
  cases rx
  exact ⟨.int .i64 0,by simp [Builtin.len_,ht,underlying,hu,goInt],big_int (n := 0) (by decide)⟩
 ·obtain ⟨e,hu⟩ := hu
  rename_i p n
  split at h
  ·rename_i hlv
   cases h
   obtain ⟨h1,h2,ad,cap,h3,h4⟩ := hdr_live hi hlv
   cases rx with
   | own hb _ hh =>
    rw [hh h1,h3]
    exact ⟨.int .i64 n,by simp [Builtin.len_,ht,underlying,hu,goInt],big_int h2⟩
  ·cases h
 ·cases h
end Go.Mini
namespace Go.Mini
open Go Go.RowKit
variable {P : Program} {own : Nat→Prop} {tm : Nat→Bool} {E : Env} {st : DS} {a : Act} {nm : Nat} {o : Oper}
theorem size_run {t : TypeId} {s : Nat} (h : sizeT P t = some s) (w : World) : (Go.sizeOf t).run P w = .ok s w := by
 unfold sizeT at h
 cases hi : P.info? t with
 | none=>rw [hi] at h; cases h
 | some i =>
  rw [hi] at h
  simp only [Option.map_some,Option.some.injEq] at h
  simp [Go.sizeOf,typeInfo,hi,h]
theorem under_run {t : TypeId} {d : TypeDesc} (h : P.underlying t = some d) (w : World) : (underlying t).run P w = .ok d w := by
 simp [underlying,h]
theorem agg_run {t : TypeId} {b : Bool} (h : aggT P t = some b) (w : World) : (isAgg t).run P w = .ok b w := by
 unfold aggT at h
 split at h <;> cases h <;> rename_i hu
 ·simp [isAgg,underlying,hu]
 ·simp [isAgg,underlying,hu]
 ·rename_i d h1 h2
  simp only [isAgg,Sem.run_bind,under_run hu,Result.andThen_ok]
  cases d <;> first | (exact (h1 _ rfl).elim) | (exact (h2 _ _ rfl).elim) | rfl
theorem add_mk (b j n : Nat) : (⟨b,j,none⟩ : Addr).add n = ⟨b,j + n,none⟩ := by
 unfold Addr.add
 split
 ·rename_i h; subst h; rfl
 ·rfl
theorem Cells.at {ad : Addr} {vs : List Value} (h : Cells E ad vs) : ad = ⟨ad.block,ad.off,none⟩ := by
 have := h.spot; cases ad; simp at this; subst this; rfl
theorem Cells.drop {ad : Addr} {vs : List Value} (h : Cells E ad vs) {n : Nat} (hn : n ≤ vs.length) : Cells E (ad.add n) (vs.drop n) := by
 rw [h.at,add_mk]
 refine ⟨rfl,?_,fun i v hv=>?_⟩
 ·have := h.com; simp; omega
 ·have := h.cell (n + i) v (by simpa using hv)
  simpa [Nat.add_assoc] using this
theorem Cells.take {ad : Addr} {vs : List Value} (h : Cells E ad vs) (n : Nat) : Cells E ad (vs.take n) := by
 refine ⟨h.spot,?_,fun i v hv=>?_⟩
 ·have := h.com; simp; omega
 ·exact h.cell i v (by rw [List.getElem?_take] at hv; split at hv; exact hv; cases hv)
theorem liveC_ok (hi : Inv own tm E st a.tmps) {p : Nat} (h : liveC p st = true) : E.len p ≠ none ∧ ∃ l,look st.O p = some (.cells l) := by
 unfold liveC at h
 split at h
 ·rename_i l hl; exact ⟨by rw [hi.len,hl]; simp,l,hl⟩
 ·cases h
theorem off_ok (hi : Inv own tm E st a.tmps) {off : Nat} {mx v : MV} {vx : Value} (rx : RelV E mx vx) (h : offV off mx st = some v) : ∃ ad,vx = .pointer (some ad) ∧ RelV E v (.pointer (some (ad.add off))) := by
 unfold offV at h
 split at h
 ·split at h
  ·rename_i hl
   cases h
   cases rx with
   | ptr hb h1 hh =>
    obtain ⟨b,e1,e2⟩ := hh (liveC_ok hi hl).1
    exact ⟨_,e2,.ptr hb rfl fun _=>⟨b,e1,by rw [add_mk]⟩⟩
  ·cases h
 ·split at h
  ·rename_i hl
   cases h
   cases rx with
   | eptr hb h1 hh =>
    obtain ⟨b,e1,e2⟩ := hh (hdr_live hi hl).1
    exact ⟨_,e2,.eptr hb rfl fun _=>⟨b,e1,by rw [add_mk,Nat.add_assoc]⟩⟩
  ·cases h
 ·split at h
  ·rename_i hl
   cases h
   cases rx with
   | cptr hr hc hh =>
    exact ⟨_,rfl,.cptr (hr.drop _) (fun c hcc=>hc c (List.mem_of_mem_drop hcc)) (hh.drop (by rw [← hr.length]; exact hl))⟩
  ·cases h
 ·cases h
theorem op_fad (hi : Inv own tm E st a.tmps) {t : TypeId} {x : Operand} {i : Nat} {x' : X} {f : Field} {s : Nat} (hx : trX tm x = some x') (ho : o.op = .fieldAddr t x i) (hf : trField P t i = some f)
  (hs : sizeT P f.type = some (s + 1)) {v : MV} (h : fieldV f.offset (st.rd x') st = some v) : OpOK P own tm nm E a o st v := by
 have rx := rd_ok hi hx
 obtain ⟨ad,e,r⟩ := off_ok hi rx h
 refine OpOK.gives hi (s := Instr.fieldAt t (a.eval x) i) ?_ (by unfold execOp; rw [ho])
 unfold trField at hf
 split at hf
 ·rename_i fs hu
  refine ⟨_,?_,r⟩
  simp [Instr.fieldAt,under_run hu,hf,e,Instr.sureAddr,fieldPlace,size_run hs]
 ·cases hf
theorem liveS_ok (hi : Inv own tm E st a.tmps) {p n s : Nat} (h : liveS p n s st = true) (hn : 0 < n) :
  E.len p = some n ∧ ∃ b,E.blk p = some b ∧ hdr E p n = .slice (some ⟨b,0,none⟩) n (E.cap p) ∧ E.sz p = s := by
 unfold liveS at h
 split at h
 ·rename_i l b hl
  obtain ⟨hn',hs⟩ := of_decide_eq_true h
  subst hn'
  refine ⟨by rw [hi.len,hl]; rfl,?_⟩
  have ok := hi.objs p _ hl
  cases ok with
  | byt0=>simp at hn
  | byt k1 k2=>exact ⟨_,k1,by unfold hdr; rw [k1],k2.trans hs.symm⟩
 ·rename_i s' l b hl
  obtain ⟨hn',hs⟩ := of_decide_eq_true h
  subst hn'
  refine ⟨by rw [hi.len,hl]; rfl,?_⟩
  have ok := hi.objs p _ hl
  cases ok with
  | el0=>simp at hn
  | el k1 k2=>exact ⟨_,k1,by unfold hdr; rw [k1],k2.trans hs⟩
 ·cases h
theorem u8_rel (b : UInt8) : RelV E (.int .u8 b.toNat) (byteV b) := by
 have := b.toNat_lt
 exact .int (by simp [IntKind.min,IntKind.signed]) (by simp [IntKind.max,IntKind.signed,IntKind.bits]; omega)
theorem flat_len {l : List MV} {s : Nat} (h : ∀ e ∈ l,e.cells.length = s) : (l.flatMap MV.cells).length = l.length * s := by
 induction l with
 | nil=>simp
 | cons e l ih=>simp [h e (by simp),ih fun x hx=>h x (by simp [hx]),Nat.succ_mul,Nat.add_comm]
theorem flat_drop {l : List MV} {s : Nat} (h : ∀ e ∈ l,e.cells.length = s) {n : Nat} (hn : n < l.length) : (l.flatMap MV.cells).drop (n * s) = l[n].cells ++ (l.drop (n + 1)).flatMap MV.cells := by
 induction l generalizing n with
 | nil=>simp at hn
 | cons e l ih =>
  cases n with
  | zero=>simp
  | succ n =>
   have he := h e (by simp)
   rw [List.flatMap_cons,List.drop_append,he]
   have : (n + 1) * s - s = n * s := by rw [Nat.succ_mul]; omega
   rw [this,List.drop_eq_nil_of_le (by rw [he,Nat.succ_mul]; omega),List.nil_append]
   simpa using ih (fun x hx=>h x (by simp [hx])) (by simpa using hn)
theorem pure_cells {v : MV} (h : Pure v) : ∀ c ∈ v.cells,Pure c := by
 intro c hc
 cases h with
 | agg hh=>exact hh c hc
 | int=>simp [MV.cells] at hc; subst hc; exact .int
 | bool=>simp [MV.cells] at hc; subst hc; exact .bool
 | str=>simp [MV.cells] at hc; subst hc; exact .str
 | nilsl=>simp [MV.cells] at hc; subst hc; exact .nilsl
 | bs=>simp [MV.cells] at hc; subst hc; exact .bs
 | sl hh=>simp [MV.cells] at hc; subst hc; exact .sl hh
 | fsl hh=>simp [MV.cells] at hc; subst hc; exact .fsl hh
 | tup hh=>simp [MV.cells] at hc; subst hc; exact .tup hh
 | nilptr=>simp [MV.cells] at hc; subst hc; exact .nilptr
 | nilfn=>simp [MV.cells] at hc; subst hc; exact .nilfn
 | nilif=>simp [MV.cells] at hc; subst hc; exact .nilif
 | iface hh=>simp [MV.cells] at hc; subst hc; exact .iface hh
 | fn hh=>simp [MV.cells] at hc; subst hc; exact .fn hh
 | cptr hh=>simp [MV.cells] at hc; subst hc; exact .cptr hh
theorem op_iad (hi : Inv own tm E st a.tmps) {t e : TypeId} {x i : Operand} {x' i' : X} {s : Nat} (hx : trX tm x = some x') (hii : trX tm i = some i') (ho : o.op = .indexAddr t x i) (hu : P.underlying t = some (.slice e))
  (hs : sizeT P e = some s) (h0 : 0 < s) {v : MV} (h : indexV s (st.rd x') (st.rd i') st = some v) : OpOK P own tm nm E a o st v := by
 have rx := rd_ok hi hx
 have ri := rd_ok hi hii
 refine OpOK.gives hi (s := Instr.indexAt t (a.eval x) (a.eval i)) ?_ (by unfold execOp; rw [ho])
 generalize st.rd x' = mx at h rx
 generalize a.eval x = vx at rx
 generalize st.rd i' = mi at h ri
 generalize a.eval i = vi at ri
 unfold indexV at h
 split at h
 ·rename_i k n
  cases ri with
  | int ri0 ri1 =>
  have fin : ∀ {ad : Addr} {len cap : Nat},vx = .slice (some ad) len cap→0 ≤ n→n < len→(Instr.indexAt t vx (.int k n)).run P E.w = .ok (.pointer (some (ad.add (n.toNat * s)))) E.w := by
   rintro ad len cap rfl h1 h2
   simp [Instr.indexAt,asIntOf,under_run hu,h1,h2,size_run hs]
  split at h
  ·rename_i p m
   split at h
   ·rename_i hc
    obtain ⟨c1,c2,c3⟩ := hc
    cases h
    obtain ⟨l1,b,hbb,e1,hsz⟩ := liveS_ok hi c3 (by omega)
    cases rx with
    | own hb _ hh =>
     have hx := hh l1
     rw [e1] at hx
     refine ⟨_,fin hx c1 c2,?_⟩
     exact .eptr hb rfl fun _=>⟨b,hbb,by rw [add_mk,hsz]; simp⟩
   ·cases h
  ·rename_i l
   split at h
   ·rename_i hc
    obtain ⟨c1,c2,hs1⟩ := hc
    have hlt : n.toNat < l.length := by omega
    rw [List.getElem?_eq_getElem hlt] at h
    cases h
    cases rx with
    | bs hcp hl hh =>
     have hne : l ≠ [] := by rintro rfl; simp at hlt
     obtain ⟨ad,rfl,hcs⟩ := hh hne
     subst hs1
     refine ⟨_,fin rfl c1 c2,?_⟩
     have hd := hcs.drop (n := n.toNat) (by simp; omega)
     refine .cptr (vs := [byteV l[n.toNat]]) (.cons (u8_rel _) .nil) (by simp [MV.cell]; exact .int) ?_
     rw [Nat.mul_one]
     have := hd.take 1
     rwa [List.drop_eq_getElem_cons (by simpa using hlt),List.take_succ_cons,List.take_zero,List.getElem_map] at this
   ·cases h
  ·rename_i s2 l
   split at h
   ·rename_i hc
    obtain ⟨c1,c2,c3⟩ := hc
    subst c3
    have hlt : n.toNat < l.length := by omega
    rw [List.getElem?_eq_getElem hlt] at h
    cases h
    cases rx with
    | sl hcp hl h0' hun hr hh =>
     rename_i ad0 cap vs
     have hne : l ≠ [] := by rintro rfl; simp at hlt
     obtain ⟨ad,rfl,hcs⟩ := hh hne
     have hmem : l[n.toNat] ∈ l := List.getElem_mem hlt
     have hes := (hun _ hmem).1
     refine ⟨_,fin rfl c1 c2,?_⟩
     have hfl := flat_len (l := l) (s := s2) fun e he=>(hun e he).1
     have hvl : vs.length = l.length * s2 := by rw [← hr.length,hfl]
     have hle : n.toNat * s2 ≤ vs.length := by rw [hvl]; exact Nat.mul_le_mul_right _ (Nat.le_of_lt hlt)
     have hd := hcs.drop (n := n.toNat * s2) hle
     have hdr' := hr.drop (n.toNat * s2)
     rw [flat_drop (fun e he=>(hun e he).1) hlt] at hdr'
     have ht := hdr'.take s2
     rw [← hes,List.take_left'  rfl] at ht
     rw [hes] at ht
     exact .cptr ht (fun c hc=>⟨(hun _ hmem).2.1 c hc,pure_cells (hun _ hmem).2.2 c hc⟩) (hd.take s2)
   ·cases h
  ·rename_i s2 l
   split at h
   ·rename_i hc
    obtain ⟨c1,c2,c3⟩ := hc
    subst c3
    have hlt : n.toNat < l.length := by omega
    rw [List.getElem?_eq_getElem hlt] at h
    cases h
    cases rx with
    | fsl rx =>
    cases rx with
    | sl hcp hl h0' hun hr hh =>
     rename_i ad0 vs
     have hne : l ≠ [] := by rintro rfl; simp at hlt
     obtain ⟨ad,rfl,hcs⟩ := hh hne
     have hmem : l[n.toNat] ∈ l := List.getElem_mem hlt
     have hes := (hun _ hmem).1
     refine ⟨_,fin rfl c1 c2,?_⟩
     have hfl := flat_len (l := l) (s := s2) fun e he=>(hun e he).1
     have hvl : vs.length = l.length * s2 := by rw [← hr.length,hfl]
     have hle : n.toNat * s2 ≤ vs.length := by rw [hvl]; exact Nat.mul_le_mul_right _ (Nat.le_of_lt hlt)
     have hd := hcs.drop (n := n.toNat * s2) hle
     have hdr' := hr.drop (n.toNat * s2)
     rw [flat_drop (fun e he=>(hun e he).1) hlt] at hdr'
     have ht := hdr'.take s2
     rw [← hes,List.take_left'  rfl] at ht
     rw [hes] at ht
     exact .cptr ht (fun c hc=>⟨(hun _ hmem).2.1 c hc,pure_cells (hun _ hmem).2.2 c hc⟩) (hd.take s2)
   ·cases h
  ·cases h
 ·cases h
end Go.Mini
namespace Go.Mini
open Go Go.RowKit
variable {P : Program} {own : Nat→Prop} {tm : Nat→Bool} {E : Env} {st : DS} {a : Act} {nm : Nat} {o : Oper}
theorem lend_cell {v v' : MV} {st' : DS} (h : lend v st = some (v',st')) (hc : v.cell = true) : v'.cell = true := by
 cases v <;> simp only [lend] at h
 case own p n =>
  split at h
  ·split at h
   ·cases h; rfl
   ·cases h
  ·split at h
   ·cases h; rfl
   ·cases h
  ·cases h
 case fn =>
  split at h
  ·cases h; rfl
  ·cases h
 all_goals first | (cases h; first | exact hc | rfl) | cases h
theorem lends_sound : ∀ {l r : List MV} {vs : List Value} {st st' : DS} {E : Env} {tmps},Inv own tm E st tmps→RelL E l vs→lends l st = some (r,st') →
  ∃ E',Move own E E' ∧ E'.w = E.w ∧ E'.born = E.born ∧ Inv own tm E' st' tmps ∧ RelL E' r vs ∧ (∀ v ∈ r,Pure v) ∧ ((∀ v ∈ l,v.cell = true)→∀ v ∈ r,v.cell = true) ∧ st'.T = st.T ∧ st'.V = st.V ∧ st'.nx = st.nx
 | [],r,vs,st,st',E,tmps,hi,hr,h=>by
  simp only [lends,Option.some.injEq,Prod.mk.injEq] at h
  obtain ⟨rfl,rfl⟩ := h
  cases hr
  exact ⟨E,Move.refl _ _,rfl,rfl,hi,.nil,by simp,by simp,rfl,rfl,rfl⟩
 | v :: l,r,vs,st,st',E,tmps,hi,hr,h=>by
  simp only [lends] at h
  split at h
  ·rename_i v' st1 h1
   split at h
   ·rename_i r' st2 h2
    cases h
    cases hr with
    | cons ha hb =>
     obtain ⟨E1,m1,w1,b1,i1,rv,pv,t1,v1,n1⟩ := lend_sound hi ha h1
     obtain ⟨E2,m2,w2,b2,i2,rl,pl,cl,t2,v2,n2⟩ := lends_sound i1 (hb.ext m1.toExt) h2
     refine ⟨E2,m1.trans m2,w2.trans w1,b2.trans b1,i2,.cons (rv.ext m2.toExt) rl,?_,?_,t2.trans t1,v2.trans v1,n2.trans n1⟩
     ·intro y hy
      rcases List.mem_cons.1 hy with rfl | hy
      ·exact pv
      ·exact pl y hy
     ·intro hc y hy
      rcases List.mem_cons.1 hy with rfl | hy
      ·exact lend_cell h1 (hc _ (by simp))
      ·exact cl (fun z hz=>hc z (by simp [hz])) y hy
   ·cases h
  ·cases h
theorem part_ok {t : TypeId} {agg : Bool} {size off : Nat} {l : List MV} {vs : List Value} {v : MV} (ha : aggT P t = some agg) (hs : sizeT P t = some size) (hr : RelL E l vs) (hc : ∀ c ∈ l,c.cell = true ∧ Pure c)
  (h : loadCells agg size l off = some v) : ∃ x,(part t vs.toArray off).run P E.w = .ok x E.w ∧ RelV E v x := by
 unfold loadCells at h
 split at h
 ·rename_i hg
  subst hg
  split at h
  ·rename_i hl
   cases h
   refine ⟨.agg ((vs.drop off).take size).toArray,?_,.agg ((hr.drop off).take size) fun c hcc=>hc c (List.mem_of_mem_drop (List.mem_of_mem_take hcc))⟩
   simp only [part,Sem.run_bind,agg_run ha,size_run hs,Result.andThen_ok,if_true,Sem.run_pure]
   simp
  ·cases h
 ·rename_i hg
  have hg : agg = false := by simpa using hg
  subst hg
  obtain ⟨x,hx,hrv⟩ := hr.get h
  exact ⟨x,by simp only [part,Sem.run_bind,agg_run ha,Result.andThen_ok]; simp [hx],hrv⟩
theorem op_fld (hi : Inv own tm E st a.tmps) {t : TypeId} {x : Operand} {i : Nat} {x' : X} {f : Field} {s : Nat} {g : Bool} (hx : trX tm x = some x') (ho : o.op = .field t x i) (hf : trField P t i = some f)
  (ha : aggT P f.type = some g) (hs : sizeT P f.type = some s) {l : List MV} {v : MV} (hl : st.rd x' = .agg l) (h : loadCells g s l f.offset = some v) : OpOK P own tm nm E a o st v := by
 have rx := rd_ok hi hx
 rw [hl] at rx
 refine OpOK.gives hi (s := Instr.field t (a.eval x) i) ?_ (by unfold execOp; rw [ho])
 generalize a.eval x = vx at rx
 cases rx with
 | agg hr hc =>
  obtain ⟨y,hy,hry⟩ := part_ok ha hs hr hc h
  unfold trField at hf
  split at hf
  ·rename_i fs hu
   exact ⟨y,by simp [Instr.field,under_run hu,hf,asAgg,hy],hry⟩
  ·cases hf
theorem ba_get (l : List UInt8) {n : Nat} (h : n < l.length) : (⟨l.toArray⟩ : ByteArray)[n]? = some l[n] := by
 rw [ByteArray.getElem?_lt' _ _ (show n < l.toArray.size by simpa using h)]
 rfl
theorem op_idxS (hi : Inv own tm E st a.tmps) {t : TypeId} {x i : Operand} {x' i' : X} (hx : trX tm x = some x') (hii : trX tm i = some i') (ho : o.op = .index t x i) (hu : P.underlying t = some .string)
  {l : List UInt8} {k : IntKind} {n : Int} (hl : st.rd x' = .str l) (hn : st.rd i' = .int k n) (hc : 0 ≤ n ∧ n < l.length) : OpOK P own tm nm E a o st (.int .u8 (l.getD n.toNat 0).toNat) := by
 have rx := rd_ok hi hx
 have ri := rd_ok hi hii
 rw [hl] at rx
 rw [hn] at ri
 refine OpOK.gives hi (s := Instr.index t (a.eval x) (a.eval i)) ?_ (by unfold execOp; rw [ho])
 generalize a.eval x = vx at rx
 generalize a.eval i = vi at ri
 cases rx
 cases ri
 have hlt : n.toNat < l.length := by omega
 refine ⟨_,?_,u8_rel _⟩
 simp only [Instr.index,asIntOf,Sem.run_bind,Sem.run_pure,Result.andThen_ok,under_run hu,if_pos hc.1,ba_get l hlt]
 simp [byteV,List.getD_eq_getElem?_getD,hlt]
theorem op_idxA (hi : Inv own tm E st a.tmps) {t e : TypeId} {x i : Operand} {x' i' : X} {s len : Nat} {g : Bool} (hx : trX tm x = some x') (hii : trX tm i = some i') (ho : o.op = .index t x i) (hu : P.underlying t = some (.array len e))
  (ha : aggT P e = some g) (hs : sizeT P e = some s) {l : List MV} {k : IntKind} {n : Int} {v : MV} (hl : st.rd x' = .agg l) (hn : st.rd i' = .int k n) (hc : 0 ≤ n ∧ n < len) (h : loadCells g s l (n.toNat * s) = some v) : OpOK P own tm nm E a o st v := by
 have rx := rd_ok hi hx
 have ri := rd_ok hi hii
 rw [hl] at rx
 rw [hn] at ri
 refine OpOK.gives hi (s := Instr.index t (a.eval x) (a.eval i)) ?_ (by unfold execOp; rw [ho])
 generalize a.eval x = vx at rx
 generalize a.eval i = vi at ri
 cases ri
 cases rx with
 | agg hr hcc =>
  obtain ⟨y,hy,hry⟩ := part_ok ha hs hr hcc h
  exact ⟨y,by simp [Instr.index,asIntOf,under_run hu,hc.1,hc.2,size_run hs,hy],hry⟩
theorem op_aad (hi : Inv own tm E st a.tmps) {t e : TypeId} {x i : Operand} {x' i' : X} {s len : Nat} (hx : trX tm x = some x') (hii : trX tm i = some i') (ho : o.op = .indexAddr t x i) (hu : P.underlying t = some (.array len e))
  (hs : sizeT P e = some s) {v : MV} (h : aindexV s len (st.rd x') (st.rd i') st = some v) : OpOK P own tm nm E a o st v := by
 have rx := rd_ok hi hx
 have ri := rd_ok hi hii
 refine OpOK.gives hi (s := Instr.indexAt t (a.eval x) (a.eval i)) ?_ (by unfold execOp; rw [ho])
 generalize st.rd i' = mi at h ri
 generalize a.eval i = vi at ri
 unfold aindexV at h
 split at h
 ·split at h
  ·rename_i hc
   obtain ⟨ad,e1,r⟩ := off_ok hi rx h
   cases ri
   refine ⟨_,?_,r⟩
   simp [Instr.indexAt,asIntOf,under_run hu,e1,Instr.sureAddr,hc.1,hc.2,size_run hs]
  ·cases h
 ·cases h
theorem var_cells {t : TypeId} {size : Nat} {b j : Nat} {vs : List Value} (ha : aggT P t = some true) (hs : sizeT P t = some size) (hl : j + size ≤ vs.length)
  (hc : ∀ i v,vs[i]? = some v→E.w.cell? ⟨b,i,none⟩ = some v) : (loadVar t ⟨b,j,none⟩).run P E.w = .ok (.agg ((vs.drop j).take size).toArray) E.w := by
 have hlen : ((vs.drop j).take size).length = size := by simp; omega
 have := run_loadCells_list (P := P) E.w ⟨b,j,none⟩ ((vs.drop j).take size) (fun i v hv=>by
  rw [add_mk]
  apply hc
  rw [List.getElem?_take] at hv
  split at hv
  ·simpa using hv
  ·cases hv)
 rw [hlen] at this
 simp only [loadVar,Sem.run_bind,agg_run ha,size_run hs,Result.andThen_ok,if_true,this,Sem.run_pure]
theorem var_cell {t : TypeId} {ad : Addr} {v : Value} (ha : aggT P t = some false) (hc : E.w.cell? ad = some v) : (loadVar t ad).run P E.w = .ok v E.w := by
 simp only [loadVar,Sem.run_bind,agg_run ha,Result.andThen_ok,Bool.false_eq_true,if_false,run_load,hc]
theorem load_ok (hi : Inv own tm E st a.tmps) {t : TypeId} {g : Bool} {s : Nat} (ha : aggT P t = some g) (hs : sizeT P t = some s) {mx v : MV} {st' : DS} {vx : Value} (rx : RelV E mx vx) (h : loadV g s mx st = some (v,st')) :
  ∃ E' x,(Instr.loadAt t vx).run P E.w = .ok x E.w ∧ Move own E E' ∧ E'.w = E.w ∧ E'.born = E.born ∧ Inv own tm E' st' a.tmps ∧ RelV E' v x ∧ st'.V = st.V ∧ st'.T = st.T := by
 unfold loadV at h
 split at h
 ·rename_i p j
  split at h
  ·rename_i l hl
   have ok := hi.objs p _ hl
   cases ok with
   | cells hb hh hr hc h0 =>
    rename_i b vs e
    cases rx with
    | ptr _ _ hp =>
     obtain ⟨b',hb',rfl⟩ := hp (by rw [hi.len,hl]; simp)
     obtain rfl : b' = b := Option.some.inj (hb'.symm.trans hb)
     have hcell : ∀ (i : Nat) (v : Value),vs[i]? = some v→E.w.cell? ⟨b',i,none⟩ = some v := fun i v hv=>by simp [World.cell?,hh,hv]
     split at h
     ·rename_i hg
      subst hg
      split at h
      ·rename_i hle
       split at h
       ·rename_i r st1 hls
        cases h
        obtain ⟨E',m,w',b1,i',rl,pl,cl,t1,v1,n1⟩ := lends_sound hi ((hr.drop j).take s) hls
        refine ⟨E',_,?_,m,w',b1,i',.agg rl (fun c hcc=>⟨cl (fun z hz=>hc z (List.mem_of_mem_drop (List.mem_of_mem_take hz))) c hcc,pl c hcc⟩),v1,t1⟩
        simp only [Instr.loadAt,Instr.sureAddr,Sem.run_bind,Sem.run_pure,Result.andThen_ok]
        exact var_cells ha hs (by rw [← hr.length]; exact hle) hcell
       ·cases h
      ·cases h
     ·rename_i hg
      have hg : g = false := by simpa using hg
      subst hg
      split at h
      ·rename_i v' hv
       cases h
       obtain ⟨x,hx,hrv⟩ := hr.get hv
       refine ⟨E,x,?_,Move.refl _ _,rfl,rfl,hi,hrv,rfl,rfl⟩
       simp only [Instr.loadAt,Instr.sureAddr,Sem.run_bind,Sem.run_pure,Result.andThen_ok]
       exact var_cell ha (hcell j x hx)
      ·cases h
  ·cases h
 ·rename_i p i j n
  split at h
  ·rename_i s' l b hl
   split at h
   ·rename_i hn
    subst hn
    split at h
    ·rename_i e he
     split at h
     ·rename_i v' hv
      cases h
      have ok := hi.objs p _ hl
      cases ok with
      | el0=>simp at he
      | el hb hsz h0 hcp hlen hu hrl hrow =>
       rename_i b' vs
       cases rx with
       | eptr _ _ hp =>
        obtain ⟨b2,hb2,rfl⟩ := hp (by rw [hi.len,hl]; rfl)
        obtain rfl : b2 = b' := Option.some.inj (hb2.symm.trans hb)
        have hi' : i < l.length := by
         rcases Nat.lt_or_ge i l.length with h' | h'
         ·exact h'
         ·rw [List.getElem?_eq_none h'] at he; cases he
        rw [List.getElem?_eq_getElem hi'] at he
        cases he
        have hmem : l[i] ∈ l := List.getElem_mem hi'
        have hdr := hrl.drop (i * s')
        rw [flat_drop (fun e he=>(hu e he).1) hi'] at hdr
        have hes := (hu _ hmem).1
        have hrel : RelL E l[i].cells ((vs.drop (i * s')).take s') := by
         have := hdr.take s'
         rwa [← hes,List.take_left' rfl,hes] at this
        have hcell : ∀ (q : Nat) (v : Value),((vs.drop (i * s')).take s')[q]? = some v→E.w.cell? ⟨b2,i * s' + q,none⟩ = some v := by
         intro q v hq
         rw [List.getElem?_take] at hq
         split at hq
         ·exact hrow.cell (by simpa using hq)
         ·cases hq
        rw [hsz]
        unfold loadCells at hv
        split at hv
        ·rename_i hg
         subst hg
         split at hv
         ·rename_i hle
          cases hv
          refine ⟨E,_,?_,Move.refl _ _,rfl,rfl,hi,.agg ((hrel.drop j).take s) (fun c hcc=>?_),rfl,rfl⟩
          ·simp only [Instr.loadAt,Instr.sureAddr,Sem.run_bind,Sem.run_pure,Result.andThen_ok]
           have hcell' : ∀ (q : Nat) (v : Value),((List.replicate (i * s') (Go.undef)) ++ ((vs.drop (i * s')).take s'))[q]? = some v→i * s' ≤ q→E.w.cell? ⟨b2,q,none⟩ = some v := by
            intro q v hq hle'
            rw [List.getElem?_append_right (by simpa using hle')] at hq
            have := hcell _ v hq
            simpa [Nat.add_sub_cancel' hle'] using this
           have hlen2 : (((vs.drop (i * s')).take s').drop j |>.take s).length = s := by
            have := hrel.length
            simp only [List.length_take,List.length_drop] at this ⊢
            omega
           have := run_loadCells_list (P := P) E.w ⟨b2,i * s' + j,none⟩ (((vs.drop (i * s')).take s').drop j |>.take s) (fun q v hq=>by
            rw [add_mk]
            rw [List.getElem?_take] at hq
            split at hq
            ·have := hcell (j + q) v (by simpa using hq)
             simpa [Nat.add_assoc] using this
            ·cases hq)
           rw [hlen2] at this
           simp only [loadVar,Sem.run_bind,agg_run ha,size_run hs,Result.andThen_ok,if_true,this,Sem.run_pure]
          ·have hmem' := List.mem_of_mem_drop (List.mem_of_mem_take hcc)
           exact ⟨(hu _ hmem).2.1 c hmem',pure_cells (hu _ hmem).2.2 c hmem'⟩
         ·cases hv
        ·rename_i hg
         have hg : g = false := by simpa using hg
         subst hg
         obtain ⟨x,hx,hrv⟩ := hrel.get hv
         refine ⟨E,x,?_,Move.refl _ _,rfl,rfl,hi,hrv,rfl,rfl⟩
         simp only [Instr.loadAt,Instr.sureAddr,Sem.run_bind,Sem.run_pure,Result.andThen_ok]
         exact var_cell ha (hcell j x hx)
     ·cases h
    ·cases h
   ·cases h
  ·rename_i l b hl
   split at h
   ·rename_i hn
    obtain ⟨hn,hj,hg⟩ := hn
    subst hn; subst hj; subst hg
    split at h
    ·rename_i e he
     cases h
     have ok := hi.objs p _ hl
     cases ok with
     | byt0=>simp at he
     | byt hb hsz hcp hlen hrow =>
      rename_i b'
      cases rx with
      | eptr _ _ hp =>
       obtain ⟨b2,hb2,rfl⟩ := hp (by rw [hi.len,hl]; rfl)
       obtain rfl : b2 = b' := Option.some.inj (hb2.symm.trans hb)
       refine ⟨E,byteV e,?_,Move.refl _ _,rfl,rfl,hi,u8_rel e,rfl,rfl⟩
       simp only [Instr.loadAt,Instr.sureAddr,Sem.run_bind,Sem.run_pure,Result.andThen_ok]
       have := hrow.cell (i := i) (v := byteV e) (by simp [he])
       exact var_cell ha (by rw [hsz]; simpa using this)
    ·cases h
   ·cases h
  ·cases h
 ·rename_i l
  split at h
  ·rename_i v' hv
   cases h
   cases rx with
   | cptr hr hc hh =>
    rename_i vs ad
    unfold loadCells at hv
    split at hv
    ·rename_i hg
     subst hg
     split at hv
     ·rename_i hle
      cases hv
      refine ⟨E,_,?_,Move.refl _ _,rfl,rfl,hi,.agg (hr.take s) (fun c hcc=>hc c (List.mem_of_mem_take hcc)),rfl,rfl⟩
      simp only [Instr.loadAt,Instr.sureAddr,Sem.run_bind,Sem.run_pure,Result.andThen_ok]
      have hlen2 : (vs.take s).length = s := by
       have := hr.length
       simp only [List.length_take]; omega
      have := run_loadCells_list (P := P) E.w ad (vs.take s) (fun q v hq=>by
       rw [hh.at,add_mk]
       rw [List.getElem?_take] at hq
       split at hq
       ·exact hh.cell q v hq
       ·cases hq)
      rw [hlen2] at this
      simp only [loadVar,Sem.run_bind,agg_run ha,size_run hs,Result.andThen_ok,if_true,this,Sem.run_pure]
     ·cases hv
    ·rename_i hg
     have hg : g = false := by simpa using hg
     subst hg
     obtain ⟨x,hx,hrv⟩ := hr.get hv
     refine ⟨E,x,?_,Move.refl _ _,rfl,rfl,hi,hrv,rfl,rfl⟩
     simp only [Instr.loadAt,Instr.sureAddr,Sem.run_bind,Sem.run_pure,Result.andThen_ok]
     have := hh.cell 0 x hx
     exact var_cell ha (by rw [hh.at]; simpa using this)
  ·cases h
 ·cases h
theorem op_load (hi : Inv own tm E st a.tmps) {t : TypeId} {x : Operand} {x' : X} {g : Bool} {s : Nat} (hx : trX tm x = some x') (ho : o.op = .load t x) (ha : aggT P t = some g) (hs : sizeT P t = some s)
  {v : MV} {st' : DS} (h : loadV g s (st.rd x') st = some (v,st')) : OpOK P own tm nm E a o st' v := by
 obtain ⟨E',y,hrun,m,w',b1,i',r,_⟩ := load_ok hi ha hs (rd_ok hi hx) h
 refine OpOK.val (E' := E') (x := y) ?_ m (fun p hp=>.inl (b1 ▸ hp)) i' r
 unfold execOp
 rw [ho]
 simp [hrun,w']
end Go.Mini
namespace Go.Mini
open Go Go.RowKit
variable {P : Program} {own : Nat→Prop} {tm : Nat→Bool} {E : Env} {st : DS} {a : Act} {nm : Nat} {o : Oper}
def Env.add (E : Env) (n : Nat) (w' : World) (k : Nat) (cap sz : Nat) : Env :=
 { C := E.C,w := w',born := fun p=>E.born p ∨ p = n,len := upd E.len n (some k),blk := upd E.blk n (some E.w.heap.size),cap := upd E.cap n cap,sz := upd E.sz n sz }
def Env.nul (E : Env) (n : Nat) (sz : Nat) : Env :=
 { C := E.C,w := E.w,born := fun p=>E.born p ∨ p = n,len := upd E.len n (some 0),blk := upd E.blk n none,cap := E.cap,sz := upd E.sz n sz }
structure Grows (w w' : World) (G : Go.Obj) : Prop where
 os : w'.os = w.os
 tape : w'.tape = w.tape
 output : w'.output = w.output
 heap : w'.heap = w.heap.push G
theorem Grows.size {w w' G} (h : Grows w w' G) : w'.heap.size = w.heap.size + 1 := by rw [h.heap]; simp
theorem Grows.old {w w' G} (h : Grows w w' G) {k : Nat} (hk : k < w.heap.size) : w'.heap[k]? = w.heap[k]? := by
 rw [h.heap,Array.getElem?_push,if_neg (by omega)]
theorem Grows.new {w w' G} (h : Grows w w' G) : w'.heap[w.heap.size]? = some G := by
 rw [h.heap,Array.getElem?_push,if_pos rfl]
theorem Grows.alloc (w : World) (G : Go.Obj) : Grows w (w.alloc G) G := ⟨rfl,rfl,rfl,rfl⟩
theorem Inv.lt {tmps} (h : Inv own tm E st tmps) {p : Nat} {ob : Obj} (hp : look st.O p = some ob) {b : Nat} (hb : E.blk p = some b) : b < E.w.heap.size := by
 have ok := h.objs p ob hp
 cases ok with
 | cells h1 hh=>cases h1.symm.trans hb; exact (Array.getElem?_eq_some_iff.1 hh).1
 | iter h1 hh=>cases h1.symm.trans hb; exact (Array.getElem?_eq_some_iff.1 hh).1
 | byt0 h1=>cases h1.symm.trans hb
 | byt h1 _ _ _ hr=>cases h1.symm.trans hb; obtain ⟨c,e,fr,hh,_⟩ := hr.row; exact (Array.getElem?_eq_some_iff.1 hh).1
 | el0 h1=>cases h1.symm.trans hb
 | el h1 _ _ _ _ _ _ hr=>cases h1.symm.trans hb; obtain ⟨c,e,fr,hh,_⟩ := hr.row; exact (Array.getElem?_eq_some_iff.1 hh).1
theorem Inv.com0 {tmps} (h : Inv own tm E st tmps) : E.C E.w.heap.size = 0 := by
 rcases Nat.eq_zero_or_pos (E.C E.w.heap.size) with e | e
 ·exact e
 ·have := h.good _ e; omega
theorem Ext.add {w' : World} {G : Go.Obj} {tmps} (h : Inv own tm E st tmps) (hg : Grows E.w w' G) {n : Nat} (hn : ¬ E.born n) (k cap sz : Nat) : Ext E (E.add n w' k cap sz) where
 C _ := Nat.le_refl _
 cell b i hi := by
  have := h.good b (by omega)
  show w'.cell? _ = E.w.cell? _
  unfold World.cell?
  rw [hg.old this]
 born _ h := .inl h
 len p hp m hm := by
  have hne : p ≠ n := by rintro rfl; exact hn hp
  have hm : upd E.len n (some k) p = some m := hm
  rw [upd_other _ _ hne] at hm
  exact ⟨hm,upd_other _ _ hne,upd_other _ _ hne,upd_other _ _ hne⟩
theorem Move.add {w' : World} {G : Go.Obj} {tmps} (h : Inv own tm E st tmps) (hg : Grows E.w w' G) {n : Nat} (hn : ¬ E.born n) (k cap sz : Nat) : Move own E (E.add n w' k cap sz) where
 toExt := Ext.add h hg hn k cap sz
 os := hg.os
 tape := hg.tape
 output := hg.output
 size := by show E.w.heap.size ≤ w'.heap.size; rw [hg.size]; omega
 block k hk _ := hg.old hk
 com _ _ := rfl
theorem Inv.add {w' : World} {G : Go.Obj} {tmps} (h : Inv own tm E st tmps) (hg : Grows E.w w' G) {n : Nat} (hn : ¬ E.born n) {cap sz : Nat} {ob : Obj} (hx : ObjOK (E.add n w' ob.len cap sz) n ob) :
  Inv own tm (E.add n w' ob.len cap sz) { st with O := put st.O n ob } tmps := by
 have hnone : look st.O n = none := by
  cases hl : look st.O n with
  | none=>rfl
  | some x=>exact (hn (h.born n (by rw [hl]; simp))).elim
 have hsize := hg.size
 refine h.change (Move.add h hg hn _ _ _) rfl rfl ?_ ?_ ?_ ?_ ?_ ?_
 ·intro p
  show upd E.len n _ p = _
  rw [look_put]
  by_cases hp : p = n
  ·subst hp; simp [upd_same]
  ·rw [upd_other _ _ hp,if_neg (Ne.symm hp),h.len]
 ·intro p x hp
  have hp : look (put st.O n ob) p = some x := hp
  rw [look_put] at hp
  by_cases hpn : p = n
  ·subst hpn; simp at hp; subst hp; exact hx
  ·rw [if_neg (Ne.symm hpn)] at hp
   refine (h.objs p x hp).ext (Ext.add h hg hn _ _ _) (upd_other _ _ hpn) (upd_other _ _ hpn) (upd_other _ _ hpn) fun b hb=>⟨?_,rfl⟩
   exact hg.old (h.lt hp hb)
 ·intro p q b hp hq hpb hqb
  have hp : look (put st.O n ob) p ≠ none := hp
  have hq : look (put st.O n ob) q ≠ none := hq
  rw [look_put] at hp hq
  have hpb : upd E.blk n (some E.w.heap.size) p = some b := hpb
  have hqb : upd E.blk n (some E.w.heap.size) q = some b := hqb
  have old : ∀ {r},r ≠ n→(if n = r then some ob else look st.O r) ≠ none→upd E.blk n (some E.w.heap.size) r = some b→look st.O r ≠ none ∧ E.blk r = some b ∧ b < E.w.heap.size := by
   intro r hr h1 h2
   rw [if_neg (Ne.symm hr)] at h1
   rw [upd_other _ _ hr] at h2
   obtain ⟨x,hx⟩ := Option.ne_none_iff_exists'.1 h1
   exact ⟨h1,h2,h.lt hx h2⟩
  by_cases h1 : p = n
  ·by_cases h2 : q = n
   ·rw [h1,h2]
   ·subst h1
    rw [upd_same] at hpb; cases hpb
    have := (old h2 hq hqb).2.2; omega
  ·by_cases h2 : q = n
   ·subst h2
    rw [upd_same] at hqb; cases hqb
    have := (old h1 hp hpb).2.2; omega
   ·exact h.sep p q b (old h1 hp hpb).1 (old h2 hq hqb).1 (old h1 hp hpb).2.1 (old h2 hq hqb).2.1
 ·intro p b hp hpb
  have hp : look (put st.O n ob) p ≠ none := hp
  rw [look_put] at hp
  have hpb : upd E.blk n (some E.w.heap.size) p = some b := hpb
  by_cases h1 : p = n
  ·subst h1; rw [upd_same] at hpb; cases hpb; exact h.base _ (Nat.le_refl _)
  ·rw [if_neg (Ne.symm h1)] at hp
   rw [upd_other _ _ h1] at hpb
   exact h.ownb p b hp hpb
 ·intro b hb
  show b < w'.heap.size
  have := h.good b hb
  omega
 ·intro p hp
  have hp : look (put st.O n ob) p ≠ none := hp
  rw [look_put] at hp
  by_cases h1 : p = n
  ·exact .inr h1
  ·rw [if_neg (Ne.symm h1)] at hp; exact .inl (h.born p hp)
theorem Move.nul {n : Nat} (hn : ¬ E.born n) (sz : Nat) : Move own E (E.nul n sz) where
 C _ := Nat.le_refl _
 cell _ _ _ := rfl
 born _ h := .inl h
 len p hp m hm := by
  have hne : p ≠ n := by rintro rfl; exact hn hp
  have hm : upd E.len n (some 0) p = some m := hm
  rw [upd_other _ _ hne] at hm
  exact ⟨hm,upd_other _ _ hne,rfl,upd_other _ _ hne⟩
 os := rfl
 tape := rfl
 output := rfl
 size := Nat.le_refl _
 block _ _ _ := rfl
 com _ _ := rfl
theorem Inv.nul {tmps} (h : Inv own tm E st tmps) {n : Nat} (hn : ¬ E.born n) {sz : Nat} {ob : Obj} (h0 : ob.len = 0) (hx : ObjOK (E.nul n sz) n ob) :
  Inv own tm (E.nul n sz) { st with O := put st.O n ob } tmps := by
 have old : ∀ {r},r ≠ n→look (put st.O n ob) r = look st.O r := fun hr=>by rw [look_put,if_neg (Ne.symm hr)]
 refine h.change (Move.nul hn _) rfl rfl ?_ ?_ ?_ ?_ h.good ?_
 ·intro p
  show upd E.len n _ p = _
  rw [look_put]
  by_cases hp : p = n
  ·subst hp; simp [upd_same,h0]
  ·rw [upd_other _ _ hp,if_neg (Ne.symm hp),h.len]
 ·intro p x hp
  have hp : look (put st.O n ob) p = some x := hp
  by_cases hpn : p = n
  ·subst hpn; rw [look_put_same] at hp; cases hp; exact hx
  ·rw [old hpn] at hp
   exact (h.objs p x hp).ext (Move.nul (own := own) hn _).toExt (upd_other _ _ hpn) rfl (upd_other _ _ hpn) fun b hb=>⟨rfl,rfl⟩
 ·intro p q b hp hq hpb hqb
  have hp : look (put st.O n ob) p ≠ none := hp
  have hq : look (put st.O n ob) q ≠ none := hq
  have hpb : upd E.blk n none p = some b := hpb
  have hqb : upd E.blk n none q = some b := hqb
  by_cases h1 : p = n
  ·subst h1; rw [upd_same] at hpb; cases hpb
  ·by_cases h2 : q = n
   ·subst h2; rw [upd_same] at hqb; cases hqb
   ·rw [old h1] at hp; rw [old h2] at hq
    rw [upd_other _ _ h1] at hpb; rw [upd_other _ _ h2] at hqb
    exact h.sep p q b hp hq hpb hqb
 ·intro p b hp hpb
  have hp : look (put st.O n ob) p ≠ none := hp
  have hpb : upd E.blk n none p = some b := hpb
  by_cases h1 : p = n
  ·subst h1; rw [upd_same] at hpb; cases hpb
  ·rw [old h1] at hp
   rw [upd_other _ _ h1] at hpb
   exact h.ownb p b hp hpb
 ·intro p hp
  have hp : look (put st.O n ob) p ≠ none := hp
  by_cases h1 : p = n
  ·exact .inr h1
  ·rw [old h1] at hp; exact .inl (h.born p hp)
theorem born_add {n : Nat} {w' : World} {k cap sz nm : Nat} (h : n = nm) : ∀ p,(E.add n w' k cap sz).born p→E.born p ∨ (nm ≤ p ∧ p < nm + 4) := by
 subst h
 rintro p (hp | rfl)
 ·exact .inl hp
 ·exact .inr ⟨Nat.le_refl _,by omega⟩
theorem born_nul {n : Nat} {sz nm : Nat} (h : n = nm) : ∀ p,(E.nul n sz).born p→E.born p ∨ (nm ≤ p ∧ p < nm + 4) := by
 subst h
 rintro p (hp | rfl)
 ·exact .inl hp
 ·exact .inr ⟨Nat.le_refl _,by omega⟩
theorem new_cells {tmps} (hi : Inv own tm E st tmps) (hn : ¬ E.born nm) {w' : World} {l : List MV} {vs : List Value} {e : TypeId} (hg : Grows E.w w' (.cells vs.toArray e)) (hr : RelL E l vs) (hc : ∀ c ∈ l,c.cell = true) :
  Inv own tm (E.add nm w' l.length 0 0) { st with O := put st.O nm (.cells l) } tmps ∧ RelV (E.add nm w' l.length 0 0) (.ptr nm 0) (.pointer (some ⟨E.w.heap.size,0,none⟩)) := by
 refine ⟨Inv.add hi hg hn (ob := .cells l) (.cells (upd_same _ _ _) hg.new (hr.ext (Ext.add hi hg hn _ _ _)) hc hi.com0),.ptr (.inr rfl) rfl fun _=>⟨_,upd_same _ _ _,rfl⟩⟩
theorem free_new (n : Nat) : Free n (0,0) := .inl rfl
theorem new_bytes {tmps} (hi : Inv own tm E st tmps) (hn : ¬ E.born nm) {w' : World} {l : List UInt8} {c : Array Value} {e : TypeId} {fr : Nat × Nat} (hg : Grows E.w w' (.cells c e fr)) (hl : l.length < 2 ^ 62) (hcl : l.length ≤ c.size)
  (hc : ∀ (i : Nat) (v : Value),(l.map byteV)[i]? = some v→c[i]? = some v) (hf : Free c.size fr) :
  Inv own tm (E.add nm w' l.length c.size 1) { st with O := put st.O nm (.byt l false) } tmps ∧ RelV (E.add nm w' l.length c.size 1) (.own nm l.length) (.slice (some ⟨E.w.heap.size,0,none⟩) l.length c.size) := by
 refine ⟨Inv.add hi hg hn (ob := .byt l false) (.byt (upd_same _ _ _) (upd_same _ _ _) (by show _ ≤ upd E.cap nm _ nm; rw [upd_same]; exact hcl) hl ⟨⟨c,e,fr,hg.new,?_,hf,hc⟩,?_,fun _=>hi.com0⟩),.own (.inr rfl) rfl fun _=>?_⟩
 ·show c.size = upd E.cap nm _ nm * 1; rw [upd_same]; omega
 ·rw [show (E.add nm w' (Obj.byt l false).len c.size 1).C E.w.heap.size = 0 from hi.com0]; omega
 ·unfold hdr
  rw [show (E.add nm w' l.length c.size 1).blk nm = some E.w.heap.size from upd_same _ _ _]
  show _ = Value.slice _ _ (upd E.cap nm _ nm)
  rw [upd_same]
theorem new_elems {tmps} (hi : Inv own tm E st tmps) (hn : ¬ E.born nm) {w' : World} {l : List MV} {vs : List Value} {c : Array Value} {e : TypeId} {fr : Nat × Nat} {s cap : Nat} (hg : Grows E.w w' (.cells c e fr)) (h0 : 0 < s) (hl : l.length < 2 ^ 62) (hcl : l.length ≤ cap)
  (hcs : c.size = cap * s) (hu : Uni s l) (hr : RelL E (l.flatMap MV.cells) vs) (hc : ∀ (i : Nat) (v : Value),vs[i]? = some v→c[i]? = some v) (hf : Free c.size fr) :
  Inv own tm (E.add nm w' l.length cap s) { st with O := put st.O nm (.el s l false) } tmps ∧ RelV (E.add nm w' l.length cap s) (.own nm l.length) (.slice (some ⟨E.w.heap.size,0,none⟩) l.length cap) := by
 refine ⟨Inv.add hi hg hn (ob := .el s l false) (.el (upd_same _ _ _) (upd_same _ _ _) h0 (by show _ ≤ upd E.cap nm _ nm; rw [upd_same]; exact hcl) hl hu (hr.ext (Ext.add hi hg hn _ _ _)) ⟨⟨c,e,fr,hg.new,?_,hf,hc⟩,?_,fun _=>hi.com0⟩),.own (.inr rfl) rfl fun _=>?_⟩
 ·show c.size = upd E.cap nm _ nm * s; rw [upd_same]; exact hcs
 ·rw [show (E.add nm w' (Obj.el s l false).len cap s).C E.w.heap.size = 0 from hi.com0]; omega
 ·unfold hdr
  rw [show (E.add nm w' l.length cap s).blk nm = some E.w.heap.size from upd_same _ _ _]
  show _ = Value.slice _ _ (upd E.cap nm _ nm)
  rw [upd_same]
theorem op_box (hi : Inv own tm E st a.tmps) (hn : ¬ E.born nm) {t : TypeId} {x : Operand} {x' : X} (hx : trX tm x = some x') (ho : o.op = .box t x) (hf : (st.rd x').fit = true) :
  OpOK P own tm nm E a o { st with O := put st.O nm (.cells (st.rd x').cells) } (.ptr nm 0) := by
 obtain ⟨hr,hc⟩ := (rd_ok hi hx).cells hf
 have hg := Grows.alloc E.w (.cells (a.eval x).cells t)
 rw [show (a.eval x).cells = (a.eval x).cells.toList.toArray from rfl] at hg
 obtain ⟨i',r⟩ := new_cells hi hn hg hr hc
 refine OpOK.val ?_ (Move.add hi hg hn _ _ _) (born_add rfl) i' r
 unfold execOp
 rw [ho]
 rfl
theorem zeroT_run {t : TypeId} {z : MV} (h : zeroT P t = some z) : ∃ v,(∀ w,(zeroValue t).run P w = .ok v w) ∧ ofValue v = some z := by
 unfold zeroT at h
 cases hi : P.info? t with
 | none=>rw [hi] at h; cases h
 | some i =>
  rw [hi] at h
  simp only [Option.bind_some] at h
  cases hz : i.zero with
  | none=>rw [hz] at h; cases h
  | some v =>
   rw [hz] at h
   exact ⟨v,fun w=>by simp [zeroValue,typeInfo,hi,hz],h⟩
theorem op_alloc (hi : Inv own tm E st a.tmps) (hn : ¬ E.born nm) {t : TypeId} {z : MV} (hz : zeroT P t = some z) (ho : o.op = .alloc t) :
  OpOK P own tm nm E a o { st with O := put st.O nm (.cells z.cells) } (.ptr nm 0) := by
 obtain ⟨v,hrun,hv⟩ := zeroT_run hz
 obtain ⟨hr0,hp,hfit⟩ := ofValue_rel (E := E) hv
 obtain ⟨hr,hc⟩ := hr0.cells hfit
 have hg := Grows.alloc E.w (.cells v.cells t)
 rw [show v.cells = v.cells.toList.toArray from rfl] at hg
 obtain ⟨i',r⟩ := new_cells hi hn hg hr hc
 refine OpOK.val ?_ (Move.add hi hg hn _ _ _) (born_add rfl) i' r
 unfold execOp
 rw [ho]
 simp [Instr.alloc,hrun,newVar,newRow]
 rfl
end Go.Mini
namespace Go.Mini
open Go Go.RowKit
variable {P : Program} {own : Nat→Prop} {tm : Nat→Bool} {E : Env} {st : DS} {a : Act} {nm : Nat} {o : Oper}
theorem freeze_new (w : World) (G : Array Value) (e : TypeId) (n : Nat) :
  ((w.alloc (.cells G e)).freeze ⟨w.heap.size,n,none⟩ 1) = w.alloc (.cells G e (n,n + 1)) := by
 unfold World.freeze World.alloc
 simp only [Nat.one_ne_zero,if_false]
 congr 1
 apply Array.ext_getElem?
 intro i
 rw [Array.getElem?_modify,Array.getElem?_push,Array.getElem?_push]
 by_cases h : i = w.heap.size
 ·subst h; simp
 ·simp [h,Ne.symm h]
theorem shape_new (w : World) (G : Array Value) (e : TypeId) : (w.alloc (.cells G e)).shape? w.heap.size = some (e,G.size) := by
 unfold World.shape?
 show (match (w.heap.push (.cells G e))[w.heap.size]? with | some (.cells c elem _)=>some (elem,c.size) | _=>none) = _
 rw [Array.getElem?_push_size]
theorem stringish_run (w : World) (G : Array Value) (e : TypeId) : (markStringish ⟨w.heap.size,0,none⟩).run P (w.alloc (.cells G e)) = .ok () (w.alloc (.cells G e (G.size,G.size + 1))) := by
 simp only [markStringish,Sem.run_bind,run_shape,shape_new,Result.andThen_ok,run_freeze,freeze_new]
theorem s2b_run (w : World) (e : TypeId) (l : List UInt8) : ∃ cap w',(Conv.stringToBytes e ⟨l.toArray⟩).run P w = .ok (.slice (some ⟨w.heap.size,0,none⟩) l.length cap) w' ∧ l.length ≤ cap ∧
  Grows w w' (.cells ((l.map byteV).toArray ++ Array.replicate (cap - l.length) (.int .u8 0)) e (cap,cap + 1)) := by
 have hle : l.length ≤ (Question.appendCap l.length 0 e).cut (w.tape w.drawn (.appendCap l.length 0 e)) := by show _ ≤ _ + _; omega
 have hq : Question.forced (.appendCap l.length 0 e) = false := rfl
 have hc : (choose (.appendCap l.length 0 e)).run P w = .ok ((Question.appendCap l.length 0 e).cut (w.tape w.drawn (.appendCap l.length 0 e))) w.drew := by
  simp only [run_choose,hq,Bool.false_eq_true,if_false]; rfl
 generalize (Question.appendCap l.length 0 e).cut (w.tape w.drawn (.appendCap l.length 0 e)) = cap at hle hc
 refine ⟨cap,w.drew.alloc (.cells ((l.map byteV).toArray ++ Array.replicate (cap - l.length) (.int .u8 0)) e (cap,cap + 1)),?_,hle,⟨rfl,rfl,rfl,rfl⟩⟩
 have hsz : ((l.map byteV).toArray ++ Array.replicate (cap - l.length) (Value.int .u8 0)).size = cap := by simp; omega
 have e1 : (Array.map (fun b : UInt8=>Value.int .u8 b.toNat) l.toArray) = (l.map byteV).toArray := by simp [byteV]
 have hst := stringish_run (P := P) w.drew ((l.map byteV).toArray ++ Array.replicate (cap - l.length) (.int .u8 0)) e
 rw [hsz] at hst
 simp only [Conv.stringToBytes,Sem.run_bind,ByteArray.size,List.size_toArray,hc,Result.andThen_ok,e1,newRow,run_newObj,Sem.run_pure]
 exact (congrArg (fun r=>Result.andThen r _) hst).trans rfl
theorem op_s2b (hi : Inv own tm E st a.tmps) (hn : ¬ E.born nm) {s d e : TypeId} {x : Operand} {x' : X} (hx : trX tm x = some x') (ho : o.op = .convert s d x) (hs : P.underlying s = some .string) (hd : P.underlying d = some (.slice e))
  (he : isByteT P e = true) {l : List UInt8} (h : st.rd x' = .str l) : OpOK P own tm nm E a o { st with O := put st.O nm (.byt l false) } (.own nm l.length) := by
 have rx := rd_ok hi hx
 rw [h] at rx
 generalize hvx : a.eval x = vx at rx
 cases rx with
 | str hl =>
  obtain ⟨cap,w',hrun,hle,hg⟩ := s2b_run (P := P) E.w e l
  have hu : P.underlying e = some (.int .u8) := by
   unfold isByteT at he
   split at he
   ·assumption
   ·cases he
  have hsz : ((l.map byteV).toArray ++ Array.replicate (cap - l.length) (Value.int .u8 0)).size = cap := by simp; omega
  obtain ⟨i',r⟩ := new_bytes hi hn hg hl (by rw [hsz]; exact hle) (fun i v hv=>by
   have : i < (l.map byteV).length := by
    rcases Nat.lt_or_ge i (l.map byteV).length with h' | h'
    ·exact h'
    ·rw [List.getElem?_eq_none h'] at hv; cases hv
   rw [Array.getElem?_append_left (by simpa using this)]
   simpa using hv) (by rw [hsz]; exact .inr (Nat.le_refl _))
  rw [hsz] at i' r
  refine OpOK.val ?_ (Move.add hi hg hn _ _ _) (born_add rfl) i' r
  unfold execOp
  rw [ho]
  simp only [hvx,Sem.run_bind,Go.convert,under_run hs,under_run hd,under_run hu,Result.andThen_ok,hrun,Sem.run_pure]
  rfl
theorem op_mkfn (hi : Inv own tm E st a.tmps) {f : FuncId} {caps : Array Operand} {ys : List X} (hx : trXs tm caps.toList = some ys) (ho : o.op = .makeFunc (.func f) #[] caps) : OpOK P own tm nm E a o st (.fn f (ys.map st.rd)) := by
 refine OpOK.same hi (x := .func (.func f) #[] (caps.toList.map a.eval).toArray) ?_ (.fn (rds_ok hi hx))
 unfold execOp
 rw [ho]
 simp [Instr.makeFunc]
 rw [← Array.toList_map]
theorem op_mkif (hi : Inv own tm E st a.tmps) {t : TypeId} {x : Operand} {x' : X} (hx : trX tm x = some x') (ho : o.op = .makeInterface t x) {d : TypeDesc} (hu : P.underlying t = some d) (hd : ∀ ms,d ≠ .interface ms)
  {v : MV} {st' : DS} (h : lend (st.rd x') st = some (v,st')) : OpOK P own tm nm E a o st' (.iface t v) := by
 obtain ⟨E',m,w',b',i',r,p,_⟩ := lend_sound hi (rd_ok hi hx) h
 refine OpOK.val (E' := E') (x := .iface t (a.eval x)) ?_ m (fun p hp=>.inl (b' ▸ hp)) i' (.iface r p)
 unfold execOp
 rw [ho,w']
 simp only [Instr.makeInterface,Sem.run_bind,under_run hu,Result.andThen_ok]
 cases d <;> first | (exact (hd _ rfl).elim) | rfl
theorem op_minmax (hi : Inv own tm E st a.tmps) {mx : Bool} {args : Array Operand} {ats : Array TypeId} {ys : List X} (hx : trXs tm args.toList = some ys)
  (ho : o.op = .call { callee := .builtin (if mx then .max else .min),args,argTypes := ats }) {y : X} {r : List X} (hy : ys = y :: r) {v : MV} (h : foldMM mx st (st.rd y) r = some v) : OpOK P own tm nm E a o st v := by
 have hrs := rds_ok hi hx
 subst hy
 have key : ∀ (r : List X) (vs : List Value) (z : MV) (x : Value),RelV E z x→RelL E (r.map st.rd) vs→foldMM mx st z r = some v →
   ∃ x',(vs.foldlM (if mx then Builtin.max2 else Builtin.min2) x).run P E.w = .ok x' E.w ∧ RelV E v x' := by
  intro r
  induction r with
  | nil =>
   intro vs z x hz hr h
   cases hr
   simp only [foldMM,Option.some.injEq] at h
   subst h
   exact ⟨x,by simp,hz⟩
  | cons y r ih =>
   intro vs z x hz hr h
   simp only [List.map_cons] at hr
   cases hr with
   | cons h1 h2 =>
    simp only [foldMM] at h
    split at h
    ·rename_i b hb
     cases z <;> first | (simp [minmaxV] at hb; done) | skip
     rename_i k p
     generalize st.rd y = my at hb h1
     cases my <;> first | (simp [minmaxV] at hb; done) | skip
     rename_i k' q
     simp only [minmaxV] at hb
     split at hb
     ·rename_i hk
      cases hb
      subst hk
      cases hz with
      | int z0 z1 =>
      cases h1 with
      | int y0 y1 =>
       obtain ⟨x',hx',hr'⟩ := ih _ _ (.int k (if mx then (if q > p then q else p) else (if q < p then q else p))) (.int (by split <;> split <;> omega) (by split <;> split <;> omega)) h2 h
       refine ⟨x',?_,hr'⟩
       rw [List.foldlM_cons,Sem.run_bind]
       cases mx
       ·simpa [Builtin.min2] using hx'
       ·simpa [Builtin.max2] using hx'
     ·cases hb
    ·cases h
 generalize hvs : args.toList.map a.eval = vs at hrs
 simp only [List.map_cons] at hrs
 cases hrs with
 | cons h1 h2 =>
  obtain ⟨x',hx',hr'⟩ := key r _ _ _ h1 h2 h
  refine OpOK.same hi (x := x') ?_ hr'
  rename_i x0 vs0
  have e1 : args.map a.eval = (x0 :: vs0).toArray := by rw [← hvs,← Array.toList_map]
  unfold execOp
  rw [ho]
  cases mx
  ·simp [resolve,invoke,builtin,e1,Builtin.min_] at hx' ⊢
   simp [hx']
  ·simp [resolve,invoke,builtin,e1,Builtin.max_] at hx' ⊢
   simp [hx']
theorem asByte_rel {v : MV} {b : UInt8} {x : Value} (h : asByte v = some b) (hr : RelV E v x) : x = byteV b := by
 unfold asByte at h
 split at h
 ·cases h
  cases hr with
  | int h0 h1 =>
   rename_i n
   simp [IntKind.min,IntKind.max,IntKind.signed,IntKind.bits] at h0 h1
   unfold byteV
   congr 1
   have : n.toNat < 256 := by omega
   simp [UInt8.toNat_ofNat,Nat.mod_eq_of_lt this]
   omega
 ·cases h
theorem fill_one {z : Array Value} : ∀ {ps : List (Nat × Operand)} {l : List (Nat × X)} {r r' : List UInt8},Inv own tm E st a.tmps→trIdx tm ps = some l→byteParts st r l = some r'→z = (r.map byteV).toArray →
  Instr.fill (fun i=>some (i * 1,1)) z (ps.map fun p=>(p.1,a.eval p.2)) = some (r'.map byteV).toArray
 | [],l,r,r',hi,h1,h2,hz=>by
  simp only [trIdx,Option.some.injEq] at h1
  subst h1
  simp only [byteParts,Option.some.injEq] at h2
  subst h2
  rw [hz]; rfl
 | (i,x) :: ps,l,r,r',hi,h1,h2,hz=>by
  simp only [trIdx] at h1
  split at h1
  ·rename_i y l' hy hl'
   cases h1
   simp only [byteParts] at h2
   split at h2
   ·rename_i b hb
    split at h2
    ·rename_i hlt
     have e := asByte_rel hb (rd_ok hi hy)
     rw [List.map_cons,Instr.fill]
     have hcells : (a.eval x).cells = #[byteV b] := by rw [e]; rfl
     simp only [hcells]
     have hc : ¬ ((#[byteV b] : Array Value).size ≠ 1 ∨ i * 1 + (#[byteV b] : Array Value).size > z.size) := by
      rw [hz]; simp; omega
     have hc' : ((decide ((#[byteV b] : Array Value).size ≠ 1) || decide (i * 1 + (#[byteV b] : Array Value).size > z.size))) = false := by
      simpa using hc
     simp only [hc',Bool.false_eq_true,if_false]
     refine (congrArg (fun z=>Instr.fill (fun i=>some (i * 1,1)) z _) ?_).trans (fill_one hi hl' h2 rfl)
     rw [hz]
     simp [Array.zipIdx,List.map_set]
    ·cases h2
   ·cases h2
  ·cases h1
end Go.Mini
namespace Go.Mini
open Go Go.RowKit
variable {P : Program} {own : Nat→Prop} {tm : Nat→Bool} {E : Env} {st : DS} {a : Act} {nm : Nat} {o : Oper}
def layV (vs : List Value) : Nat→List Value→List Value
 | _,[]=>vs
 | i,x :: r=>layV (vs.set i x) (i + 1) r
theorem lay_rel {l : List MV} {vs : List Value} (h : RelL E l vs) : ∀ {cs : List MV} {xs : List Value} (i : Nat),RelL E cs xs→RelL E (setCells l i cs) (layV vs i xs)
 | _,_,i,.nil=>h
 | _,_,i,.cons h1 h2=>lay_rel (h.set i h1) (i + 1) h2
theorem lay_length {vs : List Value} {i : Nat} {xs : List Value} : (layV vs i xs).length = vs.length := by
 induction xs generalizing vs i with
 | nil=>rfl
 | cons x xs ih=>simp [layV,ih]
theorem setCells_length {l : List MV} {i : Nat} {cs : List MV} : (setCells l i cs).length = l.length := by
 induction cs generalizing l i with
 | nil=>rfl
 | cons x xs ih=>simp [setCells,ih]
theorem mem_setCells {l : List MV} {i : Nat} {cs : List MV} {c : MV} (h : c ∈ setCells l i cs) : c ∈ l ∨ c ∈ cs := by
 induction cs generalizing l i with
 | nil=>exact .inl h
 | cons x xs ih =>
  rcases ih h with h | h
  ·rcases List.mem_or_eq_of_mem_set h with h | rfl
   ·exact .inl h
   ·exact .inr (by simp)
  ·exact .inr (by simp [h])
theorem fold_lay (off : Nat) : ∀ (cs : List Value) (k : Nat) (arr : Array Value),((cs.zipIdx k).foldl (fun a p=>a.setIfInBounds (off + p.2) p.1) arr) = (layV arr.toList (off + k) cs).toArray
 | [],k,arr=>by simp [layV]
 | c :: cs,k,arr=>by
  rw [List.zipIdx_cons,List.foldl_cons,fold_lay off cs (k + 1)]
  simp [layV,Nat.add_assoc]
theorem fill_step {pl : Nat→Option (Nat × Nat)} {z : Array Value} {i off size : Nat} {v : Value} {r : List (Nat × Value)} (hp : pl i = some (off,size)) (hs : v.cells.size = size) (hz : off + size ≤ z.size) :
  Instr.fill pl z ((i,v) :: r) = Instr.fill pl (layV z.toList off v.cells.toList).toArray r := by
 rw [Instr.fill]
 simp only [hp]
 have hc : (decide (v.cells.size ≠ size) || decide (off + v.cells.size > z.size)) = false := by
  rw [hs]; simp; omega
 simp only [hc,Bool.false_eq_true,if_false]
 congr 1
 have := fold_lay off v.cells.toList 0 z
 simp only [Nat.add_zero] at this
 rw [← this,← Array.toList_zipIdx,Array.foldl_toList]
theorem placeAll_ok {pl : Nat→Option (Nat × Nat)} : ∀ {ps : List (Nat × Operand)} {ls : List (Nat × Nat × X)} {l l' : List MV} {vs : List Value} {st st' : DS} {E : Env},Inv own tm E st a.tmps→trParts tm pl ps = some ls →
  placeAll st l ls = some (l',st')→RelL E l vs→(∀ c ∈ l,c.cell = true ∧ Pure c) →
  ∃ E' vs',Move own E E' ∧ E'.w = E.w ∧ E'.born = E.born ∧ Inv own tm E' st' a.tmps ∧ Instr.fill pl vs.toArray (ps.map fun p=>(p.1,a.eval p.2)) = some vs'.toArray ∧ RelL E' l' vs' ∧ (∀ c ∈ l',c.cell = true ∧ Pure c)
 | [],ls,l,l',vs,st,st',E,hi,h1,h2,hr,hc=>by
  simp only [trParts,Option.some.injEq] at h1
  subst h1
  simp only [placeAll,Option.some.injEq,Prod.mk.injEq] at h2
  obtain ⟨rfl,rfl⟩ := h2
  exact ⟨E,vs,Move.refl _ _,rfl,rfl,hi,rfl,hr,hc⟩
 | (i,x) :: ps,ls,l,l',vs,st,st',E,hi,h1,h2,hr,hc=>by
  simp only [trParts] at h1
  split at h1
  ·rename_i off size y ls' hp hy hl
   cases h1
   simp only [placeAll] at h2
   split at h2
   ·rename_i v st1 hv
    split at h2
    ·rename_i hcond
     obtain ⟨hsz,hle⟩ := hcond
     obtain ⟨E1,m1,w1,b1,i1,rv,pv,_⟩ := lend_sound hi (rd_ok hi hy) hv
     have hfit : v.fit = true := by
      cases pv <;> first | rfl | (exfalso; revert hv; cases st.rd y <;> simp [lend] <;> (repeat' split) <;> simp)
     obtain ⟨rc,cc⟩ := rv.cells hfit
     have hlen : (a.eval x).cells.size = size := by rw [← hsz,rc.length]; simp
     have hle' : off + size ≤ vs.toArray.size := by rw [List.size_toArray,← hr.length]; exact hle
     have hrel := lay_rel (hr.ext m1.toExt) off rc
     obtain ⟨E2,vs',m2,w2,b2,i2,hf,r2,c2⟩ := placeAll_ok i1 hl h2 hrel (fun c hcc=>by
      rcases mem_setCells hcc with h | h
      ·exact hc c h
      ·exact ⟨cc c h,pure_cells pv c h⟩)
     refine ⟨E2,vs',m1.trans m2,w2.trans w1,b2.trans b1,i2,?_,r2,c2⟩
     rw [List.map_cons,fill_step hp hlen hle']
     exact hf
    ·cases h2
   ·cases h2
  ·cases h1
theorem op_build {z : List MV} {l : List (Nat × Nat × X)} (hi : Inv own tm E st a.tmps) {t : TypeId} {ps : Array (Nat × Operand)} {pl : Nat→Option (Nat × Nat)} (hz : zeroT P t = some (.agg z)) (hl : trParts tm pl ps.toList = some l) (ho : o.op = .build t ps)
  (hrun : ∀ (w : World) (zv : Value) (cells : Array Value),(∀ w,(zeroValue t).run P w = .ok zv w)→Instr.fill pl zv.cells (ps.toList.map fun p=>(p.1,a.eval p.2)) = some cells→(Instr.build t (ps.map fun p=>(p.1,a.eval p.2))).run P w = .ok (.agg cells) w)
  {l' : List MV} {st' : DS} (h : placeAll st z l = some (l',st')) : OpOK P own tm nm E a o st' (.agg l') := by
 obtain ⟨zv,zrun,hzv⟩ := zeroT_run hz
 obtain ⟨hr0,hp,hfit⟩ := ofValue_rel (E := E) hzv
 cases hr0 with
 | agg hr hc =>
  rename_i vs
  obtain ⟨E',vs',m,w',b',i',hf,r,c⟩ := placeAll_ok hi hl h hr hc
  refine OpOK.val (E' := E') (x := .agg vs'.toArray) ?_ m (fun p hp=>.inl (b' ▸ hp)) i' (.agg r c)
  unfold execOp
  rw [ho,w']
  simp only [Sem.run_bind,hrun E.w _ vs'.toArray zrun hf,Result.andThen_ok,Sem.run_pure]
theorem places_ok : ∀ {fs : List Field} {pl : List (Nat × Nat)},places P fs = some pl→∀ w,(fs.mapM fun f=>(do pure (f.offset,← Go.sizeOf f.type) : Sem (Nat × Nat))).run P w = .ok pl w
 | [],pl,h,w=>by simp only [places,Option.some.injEq] at h; subst h; rfl
 | f :: fs,pl,h,w=>by
  simp only [places] at h
  split at h
  ·rename_i s hs
   split at h
   ·rename_i l hl
    cases h
    rw [List.mapM_cons]
    simp only [Sem.run_bind,size_run hs,Result.andThen_ok,Sem.run_pure,places_ok hl]
   ·cases h
  ·cases h
theorem build_struct {t : TypeId} {fs : Array Field} {pl : List (Nat × Nat)} (hu : P.underlying t = some (.struct fs)) (hp : places P fs.toList = some pl) {ps : Array (Nat × Value)} {w : World} {zv : Value} {cells : Array Value}
  (hz : ∀ w,(zeroValue t).run P w = .ok zv w) (hf : Instr.fill (fun i=>pl[i]?) zv.cells ps.toList = some cells) : (Instr.build t ps).run P w = .ok (.agg cells) w := by
 have hm : (fs.mapM fun f=>(do pure (f.offset,← Go.sizeOf f.type) : Sem (Nat × Nat))).run P w = .ok pl.toArray w := by
  rw [← Array.toArray_toList (xs := fs),List.mapM_toArray]
  simp only [Sem.run_map,places_ok hp,Result.andThen_ok]
 simp only [Instr.build,Sem.run_bind,hz,under_run hu,Result.andThen_ok,hm]
 have : Instr.fill (fun i=>pl.toArray[i]?) zv.cells ps.toList = some cells := by simpa using hf
 rw [this]
 rfl
theorem build_array {t e : TypeId} {n s : Nat} (hu : P.underlying t = some (.array n e)) (hs : sizeT P e = some s) {ps : Array (Nat × Value)} {w : World} {zv : Value} {cells : Array Value}
  (hz : ∀ w,(zeroValue t).run P w = .ok zv w) (hf : Instr.fill (fun i=>some (i * s,s)) zv.cells ps.toList = some cells) : (Instr.build t ps).run P w = .ok (.agg cells) w := by
 simp only [Instr.build,Sem.run_bind,hz,under_run hu,Result.andThen_ok,size_run hs,hf]
 rfl
end Go.Mini
namespace Go.Mini
open Go Go.RowKit
variable {P : Program} {own : Nat→Prop} {tm : Nat→Bool} {E : Env} {st : DS} {a : Act} {nm : Nat} {o : Oper}
theorem zeros_list (zs : List Value) (hz : 0 < zs.length) : ∀ n,((Array.range (n * zs.length)).map (fun i=>zs.toArray[i % zs.toArray.size]!)).toList = (List.replicate n zs).flatten
 | 0=>by simp
 | n + 1=>by
  have ih := zeros_list zs hz n
  simp only [Array.toList_map,Array.toList_range,List.size_toArray] at ih ⊢
  rw [Nat.succ_mul,List.range_add,List.map_append,ih,List.replicate_succ',List.flatten_append]
  congr 1
  simp only [List.map_map,List.flatten_cons,List.flatten_nil,List.append_nil]
  apply List.ext_getElem?
  intro i
  by_cases h : i < zs.length
  ·simp [h,Nat.mod_eq_of_lt h,Nat.mul_comm n]
  ·simp [h]
theorem isByteT_ok {e : TypeId} (h : isByteT P e = true) : P.underlying e = some (.int .u8) := by
 unfold isByteT at h
 split at h
 ·assumption
 ·cases h
theorem rel_zeros {z : MV} {zv : Value} (hr : RelL E z.cells zv.cells.toList) : ∀ n,RelL E ((List.replicate n z).flatMap MV.cells) (List.replicate n zv.cells.toList).flatten
 | 0=>by simp; exact .nil
 | n + 1=>by
  rw [List.replicate_succ,List.replicate_succ,List.flatMap_cons,List.flatten_cons]
  exact hr.append (rel_zeros hr n)
theorem uni_zeros {z : MV} {s : Nat} (hs : z.cells.length = s) (hc : ∀ c ∈ z.cells,c.cell = true) (hp : Pure z) (n : Nat) : Uni s (List.replicate n z) := by
 intro e he
 rw [List.eq_of_mem_replicate he]
 exact ⟨hs,hc,hp⟩
theorem zrow {zv : Value} {s : Nat} (h0 : 0 < s) (hs : zv.cells.size = s) (n : Nat) : ((Array.range (n * s)).map (fun i=>zv.cells[i % zv.cells.size]!)) = (List.replicate n zv.cells.toList).flatten.toArray := by
 apply Array.ext'
 have := zeros_list zv.cells.toList (by simpa [hs] using h0) n
 simp only [Array.length_toList,hs] at this ⊢
 simpa using this
theorem buildSlice_run {t e : TypeId} {n s : Nat} {ps : Array (Nat × Value)} {zv : Value} {cells : Array Value} (hu : P.underlying t = some (.slice e)) (hs : sizeT P e = some s) (h0 : 0 < s) (hzs : zv.cells.size = s)
  (hz : ∀ w,(zeroValue e).run P w = .ok zv w) (hlim : n * s ≤ 2 ^ 24) (hf : Instr.fill (fun i=>some (i * s,s)) (List.replicate n zv.cells.toList).flatten.toArray ps.toList = some cells) (w : World) :
  (Instr.buildSlice t n ps).run P w = .ok (.slice (some ⟨w.heap.size,0,none⟩) n n) (w.alloc (.cells cells e)) := by
 have hcond : ¬ (n * s > 2 ^ 24) := by omega
 rw [← zrow h0 hzs n] at hf
 by_cases hn : n * s = 0
 ·have e0 : ∀ f : Nat→Value,(Array.range (n * s)).map f = #[] := fun f=>by rw [hn]; simp
  rw [e0] at hf
  simp only [Instr.buildSlice,Sem.run_bind,under_run hu,Result.andThen_ok,size_run hs,if_neg hcond,Sem.run_pure,if_pos hn,e0,hf]
  rfl
 ·simp only [Instr.buildSlice,Sem.run_bind,under_run hu,Result.andThen_ok,size_run hs,if_neg hcond,Sem.run_pure,if_neg hn,hz,hf]
  rfl
theorem op_bslB (hi : Inv own tm E st a.tmps) (hn : ¬ E.born nm) {t e : TypeId} {n : Nat} {ps : Array (Nat × Operand)} {l : List (Nat × X)} (ho : o.op = .buildSlice t n ps) (hu : P.underlying t = some (.slice e)) (hs : sizeT P e = some 1)
  (hz : zeroT P e = some (.int .u8 0)) (hl : trIdx tm ps.toList = some l) (hlim : n * 1 ≤ 2 ^ 24) {r : List UInt8} (h : byteParts st (List.replicate n 0) l = some r) :
  OpOK P own tm nm E a o { st with O := put st.O nm (.byt r false) } (.own nm r.length) := by
 obtain ⟨zv,zrun,hzv⟩ := zeroT_run hz
 obtain ⟨hr0,_,_⟩ := ofValue_rel (E := E) hzv
 cases hr0 with
 | int =>
 have hrow : (List.replicate n (Value.int .u8 0).cells.toList).flatten.toArray = ((List.replicate n (0 : UInt8)).map byteV).toArray := by
  have : ∀ n,(List.replicate n [Value.int .u8 0]).flatten = List.replicate n (.int .u8 0) := by
   intro n
   induction n with
   | zero=>rfl
   | succ n ih=>rw [List.replicate_succ,List.flatten_cons,ih]; rfl
  show (List.replicate n [Value.int .u8 0]).flatten.toArray = _
  rw [this]; simp [byteV]
 have hf := fill_one (z := ((List.replicate n (0 : UInt8)).map byteV).toArray) hi hl h rfl
 have hlen : ∀ {r r' : List UInt8} {l : List (Nat × X)},byteParts st r l = some r'→r'.length = r.length := by
  intro r r' l
  induction l generalizing r with
  | nil=>intro h; simp only [byteParts,Option.some.injEq] at h; rw [h]
  | cons p l ih =>
   intro h
   simp only [byteParts] at h
   split at h
   ·split at h
    ·have := ih h; simpa using this
    ·cases h
   ·cases h
 have hrl : r.length = n := by simpa using hlen h
 have hg := Grows.alloc E.w (.cells (r.map byteV).toArray e)
 obtain ⟨i',rr⟩ := new_bytes (l := r) hi hn hg (by omega) (by simp) (fun i v hv=>by simpa using hv) (free_new _)
 have hsz : (r.map byteV).toArray.size = r.length := by simp
 rw [hsz] at i' rr
 refine OpOK.val ?_ (Move.add hi hg hn _ _ _) (born_add rfl) i' rr
 unfold execOp
 rw [ho]
 have := buildSlice_run (ps := ps.map fun p=>(p.1,a.eval p.2)) hu hs (by omega) rfl zrun hlim (by rw [hrow,Array.toList_map]; exact hf) E.w
 simp only [Sem.run_bind,this,Result.andThen_ok,Sem.run_pure,hrl]
 rfl
end Go.Mini
namespace Go.Mini
open Go Go.RowKit
variable {P : Program} {own : Nat→Prop} {tm : Nat→Bool} {E : Env} {st : DS} {a : Act} {nm : Nat} {o : Oper}
theorem setCells_mid : ∀ (B' B A D : List MV),B.length = B'.length→setCells (A ++ B ++ D) A.length B' = A ++ B' ++ D
 | [],B,A,D,h=>by
  have : B = [] := List.eq_nil_of_length_eq_zero h
  subst this; rfl
 | x :: xs,B,A,D,h=>by
  cases B with
  | nil=>simp at h
  | cons b bs =>
   have ih := setCells_mid xs bs (A ++ [x]) D (by simpa using h)
   simp only [setCells]
   have e : (A ++ b :: bs ++ D).set A.length x = A ++ [x] ++ bs ++ D := by
    rw [List.append_assoc,List.set_append_right _ _ (Nat.le_refl _)]
    simp
   rw [e]
   simpa using ih
theorem flat_set {l : List MV} {s : Nat} (h : ∀ e ∈ l,e.cells.length = s) {i : Nat} (hi : i < l.length) {v : MV} (hv : v.cells.length = s) :
  (l.set i v).flatMap MV.cells = setCells (l.flatMap MV.cells) (i * s) v.cells := by
 have e1 : l = l.take i ++ l[i] :: l.drop (i + 1) := by rw [← List.drop_eq_getElem_cons hi,List.take_append_drop]
 have hA : ((l.take i).flatMap MV.cells).length = i * s := by
  rw [flat_len (fun e he=>h e (List.mem_of_mem_take he)),List.length_take,Nat.min_eq_left (Nat.le_of_lt hi)]
 have e2 : l.flatMap MV.cells = (l.take i).flatMap MV.cells ++ l[i].cells ++ (l.drop (i + 1)).flatMap MV.cells := by
  have := congrArg (List.flatMap MV.cells) e1
  rw [this]
  simp only [List.flatMap_append,List.flatMap_cons,List.append_assoc]
 rw [e2,← hA,setCells_mid _ _ _ _ (by rw [hv]; exact h _ (List.getElem_mem hi))]
 rw [List.set_eq_take_append_cons_drop,if_pos hi]
 simp
theorem uni_set {s : Nat} {l : List MV} (h : Uni s l) {i : Nat} {v : MV} (hs : v.cells.length = s) (hc : ∀ c ∈ v.cells,c.cell = true) (hp : Pure v) : Uni s (l.set i v) := by
 intro e he
 rcases List.mem_or_eq_of_mem_set he with h' | rfl
 ·exact h e h'
 ·exact ⟨hs,hc,hp⟩
theorem lend_fit {v v' : MV} {st' : DS} (h : lend v st = some (v',st')) : v'.fit = true := by
 cases v <;> simp only [lend] at h
 case own =>
  split at h
  ·split at h
   ·cases h; rfl
   ·cases h
  ·split at h
   ·cases h; rfl
   ·cases h
  ·cases h
 case fn =>
  split at h
  ·cases h; rfl
  ·cases h
 all_goals first | (cases h; rfl) | cases h
theorem elParts_ok {s : Nat} : ∀ {ps : List (Nat × Operand)} {ls : List (Nat × X)} {l l' : List MV} {vs : List Value} {st st' : DS} {E : Env},Inv own tm E st a.tmps→trIdx tm ps = some ls →
  elParts s st l ls = some (l',st')→RelL E (l.flatMap MV.cells) vs→Uni s l →
  ∃ E' vs',Move own E E' ∧ E'.w = E.w ∧ E'.born = E.born ∧ Inv own tm E' st' a.tmps ∧ Instr.fill (fun i=>some (i * s,s)) vs.toArray (ps.map fun p=>(p.1,a.eval p.2)) = some vs'.toArray ∧ RelL E' (l'.flatMap MV.cells) vs' ∧ Uni s l' ∧ l'.length = l.length
 | [],ls,l,l',vs,st,st',E,hi,h1,h2,hr,hu=>by
  simp only [trIdx,Option.some.injEq] at h1
  subst h1
  simp only [elParts,Option.some.injEq,Prod.mk.injEq] at h2
  obtain ⟨rfl,rfl⟩ := h2
  exact ⟨E,vs,Move.refl _ _,rfl,rfl,hi,rfl,hr,hu,rfl⟩
 | (i,x) :: ps,ls,l,l',vs,st,st',E,hi,h1,h2,hr,hu=>by
  simp only [trIdx] at h1
  split at h1
  ·rename_i y ls' hy hl
   cases h1
   simp only [elParts] at h2
   split at h2
   ·rename_i v st1 hv
    split at h2
    ·rename_i hcond
     obtain ⟨hlt,hsz⟩ := hcond
     obtain ⟨E1,m1,w1,b1,i1,rv,pv,_⟩ := lend_sound hi (rd_ok hi hy) hv
     obtain ⟨rc,cc⟩ := rv.cells (lend_fit hv)
     have hlen : (a.eval x).cells.size = s := by rw [← hsz,rc.length]; simp
     have hfl := flat_len (l := l) (s := s) fun e he=>(hu e he).1
     have hle' : i * s + s ≤ vs.toArray.size := by
      rw [List.size_toArray,← hr.length,hfl]
      have := Nat.mul_le_mul_right s (Nat.succ_le_of_lt hlt)
      rwa [Nat.succ_mul] at this
     have hrel := lay_rel (hr.ext m1.toExt) (i * s) rc
     rw [← flat_set (fun e he=>(hu e he).1) hlt hsz] at hrel
     obtain ⟨E2,vs',m2,w2,b2,i2,hf,r2,u2,l2⟩ := elParts_ok i1 hl h2 hrel (uni_set hu hsz cc pv)
     refine ⟨E2,vs',m1.trans m2,w2.trans w1,b2.trans b1,i2,?_,r2,u2,by simpa using l2⟩
     rw [List.map_cons,fill_step rfl hlen hle']
     exact hf
    ·cases h2
   ·cases h2
  ·cases h1
theorem op_bslE (hi : Inv own tm E st a.tmps) (hn : ¬ E.born nm) {t e : TypeId} {n s : Nat} {z : MV} {ps : Array (Nat × Operand)} {l : List (Nat × X)} (ho : o.op = .buildSlice t n ps) (hu : P.underlying t = some (.slice e)) (hs : sizeT P e = some s)
  (h0 : 0 < s) (hz : zeroT P e = some z) (hzs : z.cells.length = s) (hl : trIdx tm ps.toList = some l) (hlim : n * s ≤ 2 ^ 24) {r : List MV} {st1 : DS} (h : elParts s st (List.replicate n z) l = some (r,st1)) :
  OpOK P own tm nm E a o { st1 with O := put st1.O nm (.el s r false) } (.own nm r.length) := by
 obtain ⟨zv,zrun,hzv⟩ := zeroT_run hz
 obtain ⟨hr0,pz,fz⟩ := ofValue_rel (E := E) hzv
 obtain ⟨rz,cz⟩ := hr0.cells fz
 have hzsz : zv.cells.size = s := by rw [← hzs,rz.length]; simp
 obtain ⟨E1,vs',m1,w1,b1,i1,hf,r1,u1,l1⟩ := elParts_ok hi hl h (rel_zeros rz n) (uni_zeros hzs cz pz n)
 have hrl : r.length = n := by simpa using l1
 have hn1 : ¬ E1.born nm := by rw [b1]; exact hn
 have hg := Grows.alloc E1.w (.cells vs'.toArray e)
 have hvl : vs'.length = n * s := by rw [← r1.length,flat_len fun e he=>(u1 e he).1,hrl]
 have hns : n ≤ n * s := Nat.le_mul_of_pos_right n h0
 obtain ⟨i',rr⟩ := new_elems (l := r) (cap := n) i1 hn1 hg h0 (by omega) (by omega) (by simpa using hvl) u1 r1 (fun i v hv=>by simpa using hv) (free_new _)
 refine OpOK.val ?_ (m1.trans (Move.add i1 hg hn1 _ _ _)) (fun p hp=>by
  rcases hp with hp | rfl
  ·rw [b1] at hp; exact .inl hp
  ·exact .inr ⟨Nat.le_refl _,by omega⟩) i' rr
 unfold execOp
 rw [ho]
 have := buildSlice_run (ps := ps.map fun p=>(p.1,a.eval p.2)) hu hs h0 hzsz zrun hlim (by rw [Array.toList_map]; exact hf) E.w
 simp only [Sem.run_bind,this,Result.andThen_ok,Sem.run_pure,hrl,w1]
 rw [← w1]; rfl
theorem op_bslF (hi : Inv own tm E st a.tmps) (hn : ¬ E.born nm) {t e : TypeId} {n s : Nat} {z : MV} {ps : Array (Nat × Operand)} {l : List (Nat × X)} (ho : o.op = .buildSlice t n ps) (hu : P.underlying t = some (.slice e)) (hs : sizeT P e = some s)
  (h0 : 0 < s) (hz : zeroT P e = some z) (hzs : z.cells.length = s) (hl : trIdx tm ps.toList = some l) (hlim : n * s ≤ 2 ^ 24) {r : List MV} {st1 : DS} (h : elParts s st (List.replicate n z) l = some (r,st1)) :
  OpOK P own tm nm E a o { st1 with O := put (put st1.O nm (.el s r false)) nm (.el s r true) } (.fsl s r) := by
 obtain ⟨zv,zrun,hzv⟩ := zeroT_run hz
 obtain ⟨hr0,pz,fz⟩ := ofValue_rel (E := E) hzv
 obtain ⟨rz,cz⟩ := hr0.cells fz
 have hzsz : zv.cells.size = s := by rw [← hzs,rz.length]; simp
 obtain ⟨E1,vs',m1,w1,b1,i1,hf,r1,u1,l1⟩ := elParts_ok hi hl h (rel_zeros rz n) (uni_zeros hzs cz pz n)
 have hrl : r.length = n := by simpa using l1
 have hn1 : ¬ E1.born nm := by rw [b1]; exact hn
 have hg := Grows.alloc E1.w (.cells vs'.toArray e)
 have hvl : vs'.length = n * s := by rw [← r1.length,flat_len fun e he=>(u1 e he).1,hrl]
 have hns : n ≤ n * s := Nat.le_mul_of_pos_right n h0
 obtain ⟨i',rr⟩ := new_elems (l := r) (cap := r.length) i1 hn1 hg h0 (by omega) (by omega) (by rw [hrl]; simpa using hvl) u1 r1 (fun i v hv=>by simpa using hv) (free_new _)
 have hlk : lend (.own nm r.length) { st1 with O := put st1.O nm (.el s r false) } = some (.sl s r,{ st1 with O := put (put st1.O nm (.el s r false)) nm (.el s r true) }) := by
  simp [lend,look,put]
 obtain ⟨E2,m2,w2,b2,i2,r2,p2,_⟩ := lend_sound i' rr hlk
 refine OpOK.val (E' := E2) ?_ ((m1.trans (Move.add i1 hg hn1 _ _ _)).trans m2) (fun p hp=>by
  rw [b2] at hp
  rcases hp with hp | rfl
  ·rw [b1] at hp; exact .inl hp
  ·exact .inr ⟨Nat.le_refl _,by omega⟩) i2 (.fsl r2)
 unfold execOp
 rw [ho,w2]
 have := buildSlice_run (ps := ps.map fun p=>(p.1,a.eval p.2)) hu hs h0 hzsz zrun hlim (by rw [Array.toList_map]; exact hf) E.w
 simp only [Sem.run_bind,this,Result.andThen_ok,Sem.run_pure,hrl,w1]
 rw [← w1]; rfl
theorem makeSlice_run {t e : TypeId} {s w : Nat} {zv : Value} {k k' : IntKind} {n c : Int} (hu : P.underlying t = some (.slice e)) (hs : sizeT P e = some s) (hw : bytesT P e = some w) (h0 : 0 < s) (hzs : zv.cells.size = s)
  (hz : ∀ w,(zeroValue e).run P w = .ok zv w) (hn : 0 ≤ n) (hnc : n ≤ c) (hlim : c * w ≤ 2 ^ 47) (hc47 : c ≤ 2 ^ 47) (wd : World) :
  (Instr.makeSlice t (.int k n) (.int k' c)).run P wd = .ok (.slice (some ⟨wd.heap.size,0,none⟩) n.toNat c.toNat) (wd.alloc (.cells (List.replicate c.toNat zv.cells.toList).flatten.toArray e)) := by
 have hwn : IntKind.i64.wrap n = n := by simp [IntKind.wrap,IntKind.signed,IntKind.bits]; split <;> omega
 have hwc : IntKind.i64.wrap c = c := by simp [IntKind.wrap,IntKind.signed,IntKind.bits]; split <;> omega
 have hbytes : ∀ wd,(typeInfo e).run P wd = .ok ((P.info? e).getD default) wd := by
  intro wd
  unfold bytesT at hw
  cases hi : P.info? e with
  | none=>rw [hi] at hw; cases hw
  | some i=>simp [typeInfo,hi]
 have hb : ((P.info? e).getD default).bytes = w := by
  unfold bytesT at hw
  cases hi : P.info? e with
  | none=>rw [hi] at hw; cases hw
  | some i=>rw [hi] at hw; simpa using hw
 have hcw : (w : Int) * c ≤ 2 ^ 47 := by rw [Int.mul_comm]; exact hlim
 have hcond : ((decide (c < 0) || decide ((w : Int) * c > 2 ^ 48)) || decide (n < 0) || decide (n > c)) = false := by
  have a1 : ¬ c < 0 := by omega
  have a2 : ¬ ((w : Int) * c > 2 ^ 48) := by omega
  have a3 : ¬ n < 0 := by omega
  have a4 : ¬ n > c := by omega
  simp only [decide_eq_false a1,decide_eq_false a2,decide_eq_false a3,decide_eq_false a4,Bool.or_self]
 have hzr := zrow h0 hzs c.toNat
 by_cases hn0 : c.toNat * s = 0
 ·have e0 : ∀ f : Nat→Value,(Array.range (c.toNat * s)).map f = #[] := fun f=>by rw [hn0]; simp
  rw [e0] at hzr
  simp only [Instr.makeSlice,Sem.run_bind,under_run hu,Result.andThen_ok,asInt,asIntOf,Sem.run_pure,hbytes,hb,hwn,hwc,hcond,Bool.false_eq_true,if_false,run_askRoom,size_run hs,if_pos hn0,e0]
  rw [← hzr]
  rfl
 ·simp only [Instr.makeSlice,Sem.run_bind,under_run hu,Result.andThen_ok,asInt,asIntOf,Sem.run_pure,hbytes,hb,hwn,hwc,hcond,Bool.false_eq_true,if_false,run_askRoom,size_run hs,if_neg hn0,hz]
  rw [← hzr]
  rfl
end Go.Mini
namespace Go.Mini
open Go Go.RowKit
variable {P : Program} {own : Nat→Prop} {tm : Nat→Bool} {E : Env} {st : DS} {a : Act} {nm : Nat} {o : Oper}
theorem flat_prefix {zs : List Value} {n c : Nat} (h : n ≤ c) {i : Nat} {v : Value} (hv : (List.replicate n zs).flatten[i]? = some v) : (List.replicate c zs).flatten[i]? = some v := by
 obtain ⟨k,rfl⟩ := Nat.exists_eq_add_of_le h
 rw [← List.replicate_append_replicate,List.flatten_append,List.getElem?_append_left]
 ·exact hv
 ·exact (List.getElem?_eq_some_iff.1 hv).1
theorem op_mksE (hi : Inv own tm E st a.tmps) (hn : ¬ E.born nm) {t e : TypeId} {x y : Operand} {x' y' : X} {s w : Nat} {z : MV} (hx : trX tm x = some x') (hy : trX tm y = some y') (ho : o.op = .makeSlice t x y) (hu : P.underlying t = some (.slice e))
  (hs : sizeT P e = some s) (hw : bytesT P e = some w) (h0 : 0 < s) (hz : zeroT P e = some z) (hzs : z.cells.length = s) {k k' : IntKind} {n c : Int} (h1 : st.rd x' = .int k n) (h2 : st.rd y' = .int k' c) (hb : 0 ≤ n ∧ n ≤ c ∧ c * w ≤ 2 ^ 47 ∧ c ≤ 2 ^ 47) :
  OpOK P own tm nm E a o { st with O := put st.O nm (.el s (List.replicate n.toNat z) false) } (.own nm n.toNat) := by
 obtain ⟨b1,b2,b3,b4⟩ := hb
 have rx := rd_ok hi hx
 have ry := rd_ok hi hy
 rw [h1] at rx
 rw [h2] at ry
 obtain ⟨zv,zrun,hzv⟩ := zeroT_run hz
 obtain ⟨hr0,pz,fz⟩ := ofValue_rel (E := E) hzv
 obtain ⟨rz,cz⟩ := hr0.cells fz
 have hzsz : zv.cells.size = s := by rw [← hzs,rz.length]; simp
 have hrun := makeSlice_run (k := k) (k' := k') hu hs hw h0 hzsz zrun b1 b2 b3 b4 E.w
 have hg := Grows.alloc E.w (.cells (List.replicate c.toNat zv.cells.toList).flatten.toArray e)
 have hsz : ∀ n : Nat,(List.replicate n zv.cells.toList).flatten.length = n * s := by
  intro n; simp [hzsz]
 obtain ⟨i',rr⟩ := new_elems (l := List.replicate n.toNat z) (cap := c.toNat) hi hn hg h0 (by simp; omega) (by simp; omega) (by rw [List.size_toArray,hsz]) (uni_zeros hzs cz pz _) (rel_zeros rz _)
  (fun i v hv=>by rw [List.getElem?_toArray]; exact flat_prefix (by omega) hv) (free_new _)
 simp only [List.length_replicate] at i' rr
 refine OpOK.val ?_ (Move.add hi hg hn _ _ _) (born_add rfl) i' rr
 generalize hvx : a.eval x = vx at rx
 generalize hvy : a.eval y = vy at ry
 cases rx
 cases ry
 unfold execOp
 rw [ho]
 simp only [hvx,hvy,Sem.run_bind,hrun,Result.andThen_ok,Sem.run_pure]
 rfl
theorem op_mksB (hi : Inv own tm E st a.tmps) (hn : ¬ E.born nm) {t e : TypeId} {x y : Operand} {x' y' : X} (hx : trX tm x = some x') (hy : trX tm y = some y') (ho : o.op = .makeSlice t x y) (hu : P.underlying t = some (.slice e))
  (hs : sizeT P e = some 1) (hw : bytesT P e = some 1) (hz : zeroT P e = some (.int .u8 0)) {k k' : IntKind} {n c : Int} (h1 : st.rd x' = .int k n) (h2 : st.rd y' = .int k' c) (hb : 0 ≤ n ∧ n ≤ c ∧ c ≤ 2 ^ 47) :
  OpOK P own tm nm E a o { st with O := put st.O nm (.byt (List.replicate n.toNat 0) false) } (.own nm n.toNat) := by
 obtain ⟨b1,b2,b4⟩ := hb
 have rx := rd_ok hi hx
 have ry := rd_ok hi hy
 rw [h1] at rx
 rw [h2] at ry
 obtain ⟨zv,zrun,hzv⟩ := zeroT_run hz
 obtain ⟨hr0,pz,fz⟩ := ofValue_rel (E := E) hzv
 cases hr0 with
 | int =>
 have hrun := makeSlice_run (k := k) (k' := k') hu hs hw (by omega) rfl zrun b1 b2 (by omega) b4 E.w
 have hfl : ∀ n,(List.replicate n (Value.int .u8 0).cells.toList).flatten = (List.replicate n (0 : UInt8)).map byteV := by
  intro n
  show (List.replicate n [Value.int .u8 0]).flatten = _
  induction n with
  | zero=>rfl
  | succ n ih=>rw [List.replicate_succ,List.flatten_cons,ih]; rfl
 have hg := Grows.alloc E.w (.cells (List.replicate c.toNat (Value.int .u8 0).cells.toList).flatten.toArray e)
 obtain ⟨i',rr⟩ := new_bytes (l := List.replicate n.toNat 0) hi hn hg (by simp; omega) (by rw [hfl]; simp; omega)
  (fun i v hv=>by rw [List.getElem?_toArray]; rw [← hfl] at hv; exact flat_prefix (by omega) hv) (free_new _)
 have hsz : (List.replicate c.toNat (Value.int .u8 0).cells.toList).flatten.toArray.size = c.toNat := by rw [hfl]; simp
 rw [hsz] at i' rr
 simp only [List.length_replicate] at i' rr
 refine OpOK.val ?_ (Move.add hi hg hn _ _ _) (born_add rfl) i' rr
 generalize hvx : a.eval x = vx at rx
 generalize hvy : a.eval y = vy at ry
 cases rx
 cases ry
 unfold execOp
 rw [ho]
 simp only [hvx,hvy,Sem.run_bind,hrun,Result.andThen_ok,Sem.run_pure]
 rfl
theorem bytes_view (hi : Inv own tm E st a.tmps) {v : MV} {x : Value} {l : List UInt8} (hr : RelV E v x) (h : bytesOf v st = some l) : (v = .str l ∧ x = .string ⟨l.toArray⟩ ∧ l.length < 2 ^ 62) ∨
  ∃ ad cap,x = .slice ad l.length cap ∧ l.length ≤ cap ∧ l.length < 2 ^ 62 ∧ (ad = none→l = []) ∧ ∀ d,ad = some d→∀ (j : Nat) (b : UInt8),l[j]? = some b→E.w.cell? (d.add j) = some (byteV b) := by
 unfold bytesOf at h
 split at h
 ·cases h; cases hr with | str hl=>exact .inl ⟨rfl,rfl,hl⟩
 ·cases h
  cases hr with
  | bs hc hl hh =>
   refine .inr ⟨_,_,rfl,hc,hl,?_,?_⟩
   ·rintro rfl
    by_cases h0 : l = []
    ·exact h0
    ·obtain ⟨ad,h1,_⟩ := hh h0; cases h1
   ·rintro d rfl j b hj
    have h0 : l ≠ [] := by rintro rfl; simp at hj
    obtain ⟨ad,h1,h2⟩ := hh h0
    cases h1
    rw [h2.at,add_mk]
    exact h2.cell j (byteV b) (by simp [hj])
 ·cases h
  cases hr
  exact .inr ⟨none,0,rfl,Nat.le_refl _,by decide,fun _=>rfl,fun d hd=>by cases hd⟩
 ·rename_i p n
  split at h
  ·rename_i l' b hl
   split at h
   ·rename_i hn
    cases h
    subst hn
    cases hr with
    | own hb _ hh =>
     have hx := hh (by rw [hi.len,hl]; rfl)
     have ok := hi.objs p _ hl
     cases ok with
     | byt0 k1 =>
      refine .inr ⟨none,0,by rw [hx]; unfold hdr; rw [k1]; rfl,Nat.le_refl _,by decide,fun _=>rfl,fun d hd=>by cases hd⟩
     | byt k1 k2 k3 k4 k5 =>
      refine .inr ⟨_,_,by rw [hx]; unfold hdr; rw [k1],k3,k4,fun h=>(by cases h),?_⟩
      rintro d hd j b hj
      cases hd
      rw [add_mk,Nat.zero_add]
      exact k5.cell (by simp [hj])
   ·cases h
  ·cases h
 ·cases h
theorem op_b2s (hi : Inv own tm E st a.tmps) {s d e : TypeId} {x : Operand} {x' : X} (hx : trX tm x = some x') (ho : o.op = .convert s d x) (hs : P.underlying s = some (.slice e)) (hd : P.underlying d = some .string) (he : isByteT P e = true)
  {l : List UInt8} (hne : ∀ s,st.rd x' ≠ .str s) (h : bytesOf (st.rd x') st = some l) : OpOK P own tm nm E a o st (.str l) := by
 have rx := rd_ok hi hx
 rcases bytes_view hi rx h with ⟨h1,_⟩ | ⟨ad,cap,h1,h2,h3,h4,h5⟩
 ·exact (hne _ h1).elim
 ·refine OpOK.gives hi (s := Go.convert s d (a.eval x)) ⟨.string ⟨l.toArray⟩,?_,.str h3⟩ (by unfold execOp; rw [ho])
  rw [h1]
  cases ad with
  | none =>
   have := h4 rfl
   subst this
   rw [run_convert_bytes_string _ _ _ _ _ _ _ hs (isByteT_ok he) hd]
   rfl
  | some q =>
   refine run_convert_bytes_back _ _ _ _ q cap l hs (isByteT_ok he) hd fun j hj=>?_
   exact h5 q rfl j l[j] (by simp [hj])
theorem cut_ok {α : Type} {l r : List α} {lo hi : Option MV} (h : cut l lo hi = some r) : ∃ i j : Nat,i ≤ j ∧ j ≤ l.length ∧ r = (l.drop i).take (j - i) ∧
  (lo = none ∧ i = 0 ∨ ∃ k,lo = some (.int k i)) ∧ (hi = none ∧ j = l.length ∨ ∃ k,hi = some (.int k j)) := by
 unfold cut at h
 split at h
 ·rename_i hh aa e1 e2
  split at h
  ·rename_i hc
   obtain ⟨c1,c2,c3⟩ := hc
   cases h
   refine ⟨aa.toNat,hh.toNat,by omega,by omega,rfl,?_,?_⟩
   ·split at e2
    ·cases e2; exact .inl ⟨rfl,rfl⟩
    ·rename_i k q
     cases e2
     exact .inr ⟨k,by rw [Int.toNat_of_nonneg c1]⟩
    ·cases e2
   ·split at e1
    ·cases e1; exact .inl ⟨rfl,by simp⟩
    ·rename_i k q
     cases e1
     exact .inr ⟨k,by rw [Int.toNat_of_nonneg (by omega)]⟩
    ·cases e1
  ·cases h
 ·cases h
theorem trO_ok (hi : Inv own tm E st a.tmps) {lo : Option Operand} {lo' : Option X} (h : trO tm lo = some lo') {i : Nat} {d : Nat} (hc : lo'.map st.rd = none ∧ i = d ∨ ∃ k,lo'.map st.rd = some (.int k i)) :
  (lo.map a.eval = none ∧ i = d) ∨ ∃ k,lo.map a.eval = some (.int k i) := by
 cases lo with
 | none =>
  simp only [trO,Option.some.injEq] at h
  subst h
  rcases hc with ⟨_,h⟩ | ⟨k,h⟩
  ·exact .inl ⟨rfl,h⟩
  ·cases h
 | some x =>
  simp only [trO] at h
  cases hx : trX tm x with
  | none=>rw [hx] at h; cases h
  | some y =>
   rw [hx] at h
   cases h
   rcases hc with ⟨h,_⟩ | ⟨k,h⟩
   ·cases h
   ·simp only [Option.map_some,Option.some.injEq] at h
    have r := rd_ok hi hx
    rw [h] at r
    refine .inr ⟨k,?_⟩
    generalize hv : a.eval x = vx at r
    cases r
    simp [hv]
theorem bounds_run {isSlice : Bool} {len cap i j : Nat} {lo hi : Option Value} (h1 : i ≤ j) (h2 : j ≤ len) (h3 : len ≤ cap) (hlo : (lo = none ∧ i = 0) ∨ ∃ k,lo = some (.int k i)) (hhi : (hi = none ∧ j = len) ∨ ∃ k,hi = some (.int k j)) (w : World) :
  (Instr.sliceBounds isSlice len cap lo hi none).run P w = .ok (i,j,cap) w := by
 have hj : ((0 : Int) ≤ j ∧ (j : Int) ≤ cap) := by omega
 have hi' : ((0 : Int) ≤ i ∧ (i : Int) ≤ j) := by omega
 rcases hlo with ⟨rfl,rfl⟩ | ⟨k,rfl⟩ <;> rcases hhi with ⟨rfl,rfl⟩ | ⟨k',rfl⟩ <;>
  simp [Instr.sliceBounds,Instr.sliceBound,asIntOf,h1] <;> omega
theorem slc_val {P : Program} {t e : TypeId} {s len cap i j : Nat} {ad : Option Addr} {lo hi : Option Value} (hu : P.underlying t = some (.slice e)) (hs : sizeT P e = some s) (h1 : i ≤ j) (h2 : j ≤ len) (h3 : len ≤ cap)
  (hlo : (lo = none ∧ i = 0) ∨ ∃ k,lo = some (.int k i)) (hhi : (hi = none ∧ j = len) ∨ ∃ k,hi = some (.int k j)) (w : World) :
  (Instr.sliceAt t (.slice ad len cap) lo hi none).run P w = .ok (.slice (if cap = i then ad else ad.map (·.add (i * s))) (j - i) (cap - i)) w := by
 simp only [Instr.sliceAt,Sem.run_bind,under_run hu,Result.andThen_ok,Instr.slice,bounds_run h1 h2 h3 hlo hhi,size_run hs,Sem.run_pure]
theorem take_drop_ne {α : Type} {l : List α} {i j : Nat} (h : (l.drop i).take (j - i) ≠ []) : i < l.length ∧ i < j := by
 constructor
 ·rcases Nat.lt_or_ge i l.length with h' | h'
  ·exact h'
  ·rw [List.drop_eq_nil_of_le h'] at h; simp at h
 ·rcases Nat.lt_or_ge i j with h' | h'
  ·exact h'
  ·rw [Nat.sub_eq_zero_of_le h'] at h; simp at h
theorem slc_bs {l : List UInt8} {ad : Option Addr} {cap i j : Nat} (hc : l.length ≤ cap) (hl : l.length < 2 ^ 62) (hh : l ≠ []→∃ d,ad = some d ∧ Cells E d (l.map byteV)) (h1 : i ≤ j) (h2 : j ≤ l.length) :
  RelV E (.bs ((l.drop i).take (j - i))) (.slice (if cap = i then ad else ad.map (·.add (i * 1))) (j - i) (cap - i)) := by
 have hlen : ((l.drop i).take (j - i)).length = j - i := by simp; omega
 have := RelV.bs (E := E) (l := (l.drop i).take (j - i)) (a := if cap = i then ad else ad.map (·.add (i * 1))) (cap := cap - i) (by rw [hlen]; omega) (by rw [hlen]; omega) (fun hne=>by
  obtain ⟨q1,q2⟩ := take_drop_ne hne
  obtain ⟨d,rfl,hcs⟩ := hh (by rintro rfl; simp at q1)
  refine ⟨d.add (i * 1),by rw [if_neg (by omega)]; rfl,?_⟩
  have := (hcs.drop (n := i * 1) (by simp; omega)).take (j - i)
  rw [Nat.mul_one] at this ⊢
  simpa [List.map_take,List.map_drop] using this)
 rwa [hlen] at this
theorem slc_sl {l : List MV} {s : Nat} {vs : List Value} {ad : Option Addr} {cap i j : Nat} (hc : l.length ≤ cap) (hl : l.length < 2 ^ 62) (h0 : 0 < s) (hu : Uni s l) (hr : RelL E (l.flatMap MV.cells) vs) (hh : l ≠ []→∃ d,ad = some d ∧ Cells E d vs) (h1 : i ≤ j) (h2 : j ≤ l.length) :
  RelV E (.sl s ((l.drop i).take (j - i))) (.slice (if cap = i then ad else ad.map (·.add (i * s))) (j - i) (cap - i)) := by
 have hlen : ((l.drop i).take (j - i)).length = j - i := by simp; omega
 have hu' : Uni s ((l.drop i).take (j - i)) := fun e he=>hu e (List.mem_of_mem_drop (List.mem_of_mem_take he))
 have hfl := flat_len (l := l) (s := s) fun e he=>(hu e he).1
 have hvl : vs.length = l.length * s := by rw [← hr.length,hfl]
 have e1 : ((l.drop i).take (j - i)).flatMap MV.cells = ((l.flatMap MV.cells).drop (i * s)).take ((j - i) * s) := by
  have dropk : ∀ (l : List MV) (i : Nat),(∀ e ∈ l,e.cells.length = s)→(l.drop i).flatMap MV.cells = (l.flatMap MV.cells).drop (i * s) := by
   intro l
   induction l with
   | nil=>intro i _; simp
   | cons x l ih =>
    intro i hx
    cases i with
    | zero=>simp
    | succ i =>
     have hxs := hx x (by simp)
     rw [List.drop_succ_cons,ih i (fun e he=>hx e (by simp [he])),List.flatMap_cons,List.drop_append,show x.cells.drop ((i + 1) * s) = [] from List.drop_eq_nil_of_le (by rw [hxs,Nat.succ_mul]; omega),List.nil_append,hxs]
     congr 1
     rw [Nat.succ_mul]; omega
  have takek : ∀ (l : List MV) (i : Nat),(∀ e ∈ l,e.cells.length = s)→(l.take i).flatMap MV.cells = (l.flatMap MV.cells).take (i * s) := by
   intro l
   induction l with
   | nil=>intro i _; simp
   | cons x l ih =>
    intro i hx
    cases i with
    | zero=>simp
    | succ i =>
     have hxs := hx x (by simp)
     rw [List.take_succ_cons,List.flatMap_cons,ih i (fun e he=>hx e (by simp [he])),List.flatMap_cons,List.take_append,show x.cells.take ((i + 1) * s) = x.cells from List.take_of_length_le (by rw [hxs,Nat.succ_mul]; omega),hxs]
     congr 2
     rw [Nat.succ_mul]; omega
  rw [takek _ _ (fun e he=>(hu e (List.mem_of_mem_drop he)).1),dropk _ _ (fun e he=>(hu e he).1)]
 have := RelV.sl (E := E) (s := s) (l := (l.drop i).take (j - i)) (a := if cap = i then ad else ad.map (·.add (i * s))) (cap := cap - i) (by rw [hlen]; omega) (by rw [hlen]; omega) h0 hu'
  (vs := (vs.drop (i * s)).take ((j - i) * s)) (by rw [e1]; exact (hr.drop _).take _) (fun hne=>by
  obtain ⟨q1,q2⟩ := take_drop_ne hne
  obtain ⟨d,rfl,hcs⟩ := hh (by rintro rfl; simp at q1)
  exact ⟨d.add (i * s),by rw [if_neg (by omega)]; rfl,(hcs.drop (n := i * s) (by rw [hvl]; exact Nat.mul_le_mul_right _ (by omega))).take _⟩)
 rwa [hlen] at this
theorem op_slc (hi : Inv own tm E st a.tmps) {t : TypeId} {x : Operand} {lo hi' : Option Operand} {x' : X} {lo' hi'' : Option X} {str : Bool} {s : Nat} (hx : trX tm x = some x') (hl : trO tm lo = some lo') (hh : trO tm hi' = some hi'') (ho : o.op = .slice t x lo hi' none)
  (hu : match str with | true=>P.underlying t = some .string | false=>∃ e,P.underlying t = some (.slice e) ∧ sizeT P e = some s) {v : MV} {st' : DS} (h : sliceV str s (st.rd x') (lo'.map st.rd) (hi''.map st.rd) st = some (v,st')) : OpOK P own tm nm E a o st' v := by
 have rx := rd_ok hi hx
 generalize st.rd x' = mx at h rx
 have val : ∀ {E' : Env} {y : Value},Move own E E'→E'.w = E.w→E'.born = E.born→Inv own tm E' st' a.tmps→RelV E' v y→(Instr.sliceAt t (a.eval x) (lo.map a.eval) (hi'.map a.eval) none).run P E.w = .ok y E.w→OpOK P own tm nm E a o st' v := by
  intro E' y m w' b' i' r hrun
  refine OpOK.val (E' := E') (x := y) ?_ m (fun p hp=>.inl (b' ▸ hp)) i' r
  unfold execOp
  rw [ho,w']
  simp only [Option.map_none,Sem.run_bind,hrun,Result.andThen_ok,Sem.run_pure]
 generalize a.eval x = vx at rx val
 unfold sliceV at h
 split at h
 ·rename_i l
  split at h
  ·rename_i r hr
   cases h
   obtain ⟨i,j,h1,h2,rfl,hlo,hhi⟩ := cut_ok hr
   have hlo := trO_ok hi hl hlo
   have hhi := trO_ok hi hh hhi
   cases rx with
   | str hlen =>
    refine val (Move.refl _ _) rfl rfl hi (y := .string ⟨((l.drop i).take (j - i)).toArray⟩) (.str (by simp; omega)) ?_
    have hb := bounds_run (P := P) (isSlice := false) h1 h2 (Nat.le_refl _) hlo hhi E.w
    have hsz : (⟨l.toArray⟩ : ByteArray).size = l.length := by simp [ByteArray.size]
    simp only [Instr.sliceAt,Sem.run_bind,under_run hu,Result.andThen_ok,Instr.slice,Option.isSome_none,Bool.false_eq_true,if_false,hsz,hb,Sem.run_pure,ByteArray.extract_mk]
  ·cases h
 ·rename_i l
  obtain ⟨e,hu,hs⟩ := hu
  split at h
  ·rename_i hs1
   subst hs1
   split at h
   ·rename_i r hr
    cases h
    obtain ⟨i,j,h1,h2,rfl,hlo,hhi⟩ := cut_ok hr
    have hlo := trO_ok hi hl hlo
    have hhi := trO_ok hi hh hhi
    cases rx with
    | bs hc hlen hcs=>exact val (Move.refl _ _) rfl rfl hi (slc_bs hc hlen hcs h1 h2) (slc_val hu hs h1 h2 hc hlo hhi E.w)
   ·cases h
  ·cases h
 ·rename_i s' l
  obtain ⟨e,hu,hs⟩ := hu
  split at h
  ·rename_i hs1
   subst hs1
   split at h
   ·rename_i r hr
    cases h
    obtain ⟨i,j,h1,h2,rfl,hlo,hhi⟩ := cut_ok hr
    have hlo := trO_ok hi hl hlo
    have hhi := trO_ok hi hh hhi
    cases rx with
    | sl hc hlen h0 hun hrl hcs=>exact val (Move.refl _ _) rfl rfl hi (slc_sl hc hlen h0 hun hrl hcs h1 h2) (slc_val hu hs h1 h2 hc hlo hhi E.w)
   ·cases h
  ·cases h
 ·rename_i p n
  obtain ⟨e,hu,hs⟩ := hu
  split at h
  ·rename_i l st1 hle
   split at h
   ·rename_i hs1
    subst hs1
    split at h
    ·rename_i r hr
     cases h
     obtain ⟨i,j,h1,h2,rfl,hlo,hhi⟩ := cut_ok hr
     have hlo := trO_ok hi hl hlo
     have hhi := trO_ok hi hh hhi
     obtain ⟨E',m,w',b',i',rv,_⟩ := lend_sound hi rx hle
     cases rv with
     | bs hc hlen hcs=>exact val m w' b' i' (slc_bs hc hlen hcs h1 h2) (slc_val hu hs h1 h2 hc hlo hhi E.w)
    ·cases h
   ·cases h
  ·rename_i s' l st1 hle
   split at h
   ·rename_i hs1
    subst hs1
    split at h
    ·rename_i r hr
     cases h
     obtain ⟨i,j,h1,h2,rfl,hlo,hhi⟩ := cut_ok hr
     have hlo := trO_ok hi hl hlo
     have hhi := trO_ok hi hh hhi
     obtain ⟨E',m,w',b',i',rv,_⟩ := lend_sound hi rx hle
     cases rv with
     | sl hc hlen h0 hun hrl hcs=>exact val m w' b' i' (slc_sl hc hlen h0 hun hrl hcs h1 h2) (slc_val hu hs h1 h2 hc hlo hhi E.w)
    ·cases h
   ·cases h
  ·cases h
 ·obtain ⟨e,hu,hs⟩ := hu
  split at h
  ·rename_i r hr
   cases h
   obtain ⟨i,j,h1,h2,_,hlo,hhi⟩ := cut_ok hr
   obtain rfl : j = 0 := by simpa using h2
   obtain rfl : i = 0 := by omega
   have hlo := trO_ok hi hl hlo
   have hhi := trO_ok hi hh hhi
   cases rx with
   | nilsl=>exact val (Move.refl _ _) rfl rfl hi (y := .slice none 0 0) .nilsl (slc_val (ad := none) hu hs (Nat.le_refl 0) (Nat.le_refl 0) (Nat.le_refl 0) hlo hhi E.w)
  ·cases h
 ·cases h
theorem bounds3_run {len cap : Nat} {k k' : IntKind} (h3 : len ≤ cap) (w : World) :
  (Instr.sliceBounds true len cap none (some (.int k len)) (some (.int k' len))).run P w = .ok (0,len,len) w := by
 have hj : ((0 : Int) ≤ len ∧ (len : Int) ≤ cap) := by omega
 have hi' : ((0 : Int) ≤ len ∧ (len : Int) ≤ len) := by omega
 simp [Instr.sliceBounds,Instr.sliceBound,asIntOf,hj,hi',h3]
theorem slc3_val {t e : TypeId} {s len cap : Nat} {ad : Option Addr} {k k' : IntKind} (hu : P.underlying t = some (.slice e)) (hs : sizeT P e = some s) (h3 : len ≤ cap) (w : World) :
  (Instr.sliceAt t (.slice ad len cap) none (some (.int k len)) (some (.int k' len))).run P w = .ok (.slice (if len = 0 then ad else ad.map (·.add (0 * s))) (len - 0) (len - 0)) w := by
 simp only [Instr.sliceAt,Sem.run_bind,under_run hu,Result.andThen_ok,Instr.slice,bounds3_run h3,size_run hs,Sem.run_pure]
theorem sl_full {l : List MV} {s cap : Nat} {ad : Option Addr} (h : RelV E (.sl s l) (.slice ad l.length cap)) :
  RelV E (.fsl s l) (.slice (if l.length = 0 then ad else ad.map (·.add (0 * s))) (l.length - 0) (l.length - 0)) := by
 cases h with
 | sl hc hlen h0 hun hrl hcs =>
  have := slc_sl (Nat.le_refl _) hlen h0 hun hrl hcs (Nat.zero_le _) (Nat.le_refl _)
  simp only [List.drop_zero,Nat.sub_zero,List.take_length] at this ⊢
  exact .fsl this
theorem bs_full {l : List UInt8} {cap : Nat} {ad : Option Addr} (h : RelV E (.bs l) (.slice ad l.length cap)) :
  RelV E (.bs l) (.slice (if l.length = 0 then ad else ad.map (·.add (0 * 1))) (l.length - 0) (l.length - 0)) := by
 cases h with
 | bs hc hlen hcs =>
  have := slc_bs (Nat.le_refl _) hlen hcs (Nat.zero_le _) (Nat.le_refl _)
  simpa only [List.drop_zero,Nat.sub_zero,List.take_length] using this
theorem cut_all {α : Type} {l r : List α} (h : cut l none none = some r) : l = r := by
 simpa [cut] using h
theorem op_cutF (hi : Inv own tm E st a.tmps) {t e : TypeId} {x hh mm : Operand} {x' h' m' : X} {s : Nat} (hx : trX tm x = some x') (hhx : trX tm hh = some h') (hmx : trX tm mm = some m') (ho : o.op = .slice t x none (some hh) (some mm))
  (hu : P.underlying t = some (.slice e)) (hs : sizeT P e = some s) {v : MV} {st' : DS} (h : sliceF s (st.rd x') (st.rd h') (st.rd m') st = some (v,st')) : OpOK P own tm nm E a o st' v := by
 have rx := rd_ok hi hx
 have rh := rd_ok hi hhx
 have rm := rd_ok hi hmx
 generalize st.rd x' = mx at h rx
 generalize st.rd h' = mh at h rh
 generalize st.rd m' = mc at h rm
 have val : ∀ {E' : Env} {y : Value},Move own E E'→E'.w = E.w→E'.born = E.born→Inv own tm E' st' a.tmps→RelV E' v y→(Instr.sliceAt t (a.eval x) none (some (a.eval hh)) (some (a.eval mm))).run P E.w = .ok y E.w→OpOK P own tm nm E a o st' v := by
  intro E' y m w' b' i' r hrun
  refine OpOK.val (E' := E') (x := y) ?_ m (fun p hp=>.inl (b' ▸ hp)) i' r
  unfold execOp
  rw [ho,w']
  simp only [Option.map_none,Option.map_some,Sem.run_bind,hrun,Result.andThen_ok,Sem.run_pure]
 generalize a.eval x = vx at rx val
 generalize a.eval hh = vh at rh val
 generalize a.eval mm = vm at rm val
 unfold sliceF at h
 split at h
 ·rename_i s' l st1 hsl
  split at h
  ·rename_i k nh k' nm'
   split at h
   ·rename_i hc
    obtain ⟨rfl,rfl⟩ := hc
    cases h
    cases rh with
    | int =>
    cases rm with
    | int =>
    unfold sliceV at hsl
    split at hsl
    ·split at hsl <;> cases hsl
    ·split at hsl
     ·split at hsl <;> cases hsl
     ·cases hsl
    ·rename_i s2 l2
     split at hsl
     ·rename_i hs1
      subst hs1
      split at hsl
      ·rename_i r hr
       cases hsl
       obtain rfl := cut_all hr
       cases rx with
       | sl hc hlen h0 hun hrl hcs=>exact val (Move.refl _ _) rfl rfl hi (sl_full (.sl hc hlen h0 hun hrl hcs)) (slc3_val hu hs hc E.w)
      ·cases hsl
     ·cases hsl
    ·rename_i p n
     split at hsl
     ·split at hsl
      ·split at hsl <;> cases hsl
      ·cases hsl
     ·rename_i s2 l2 st2 hle
      split at hsl
      ·rename_i hs1
       subst hs1
       split at hsl
       ·rename_i r hr
        cases hsl
        obtain rfl := cut_all hr
        obtain ⟨E',m,w',b',i',rv,_⟩ := lend_sound hi rx hle
        cases rv with
        | sl hc hlen h0 hun hrl hcs=>exact val m w' b' i' (sl_full (.sl hc hlen h0 hun hrl hcs)) (slc3_val hu hs hc E.w)
       ·cases hsl
      ·cases hsl
     ·cases hsl
    ·split at hsl <;> cases hsl
    ·cases hsl
   ·cases h
  ·cases h
 ·rename_i l st1 hsl
  split at h
  ·rename_i k nh k' nm'
   split at h
   ·rename_i hc
    obtain ⟨rfl,rfl⟩ := hc
    cases h
    cases rh with
    | int =>
    cases rm with
    | int =>
    unfold sliceV at hsl
    split at hsl
    ·split at hsl <;> cases hsl
    ·split at hsl
     ·rename_i hs1
      subst hs1
      split at hsl
      ·rename_i r hr
       cases hsl
       obtain rfl := cut_all hr
       cases rx with
       | bs hc hlen hcs=>exact val (Move.refl _ _) rfl rfl hi (bs_full (.bs hc hlen hcs)) (slc3_val hu hs hc E.w)
      ·cases hsl
     ·cases hsl
    ·split at hsl
     ·split at hsl <;> cases hsl
     ·cases hsl
    ·rename_i p n
     split at hsl
     ·rename_i l2 st2 hle
      split at hsl
      ·rename_i hs1
       subst hs1
       split at hsl
       ·rename_i r hr
        cases hsl
        obtain rfl := cut_all hr
        obtain ⟨E',m,w',b',i',rv,_⟩ := lend_sound hi rx hle
        cases rv with
        | bs hc hlen hcs=>exact val m w' b' i' (bs_full (.bs hc hlen hcs)) (slc3_val hu hs hc E.w)
       ·cases hsl
      ·cases hsl
     ·split at hsl
      ·split at hsl <;> cases hsl
      ·cases hsl
     ·cases hsl
    ·split at hsl <;> cases hsl
    ·cases hsl
   ·cases h
  ·cases h
 ·cases h
end Go.Mini
namespace Go.Mini
open Go Go.RowKit
variable {P : Program} {own : Nat→Prop} {tm : Nat→Bool} {E : Env} {st : DS} {a : Act} {nm : Nat} {o : Oper}
def putRow (w : World) (b : Nat) (G : Go.Obj) : World := { w with heap := w.heap.setIfInBounds b G }
theorem putRow_same {w : World} {b : Nat} (G : Go.Obj) (h : b < w.heap.size) : (putRow w b G).heap[b]? = some G := by
 show (w.heap.setIfInBounds b G)[b]? = _
 rw [Array.getElem?_setIfInBounds]; simp [h]
theorem putRow_other {w : World} {b k : Nat} (G : Go.Obj) (h : k ≠ b) : (putRow w b G).heap[k]? = w.heap[k]? := by
 show (w.heap.setIfInBounds b G)[k]? = _
 rw [Array.getElem?_setIfInBounds,if_neg (Ne.symm h)]
theorem putRow_size {w : World} {b : Nat} (G : Go.Obj) : (putRow w b G).heap.size = w.heap.size := by simp [putRow]
theorem setCell_row {w : World} {b k : Nat} {c : Array Value} {e : TypeId} {fr : Nat × Nat} (hh : w.heap[b]? = some (.cells c e fr)) (v : Value) :
  w.setCell ⟨b,k,none⟩ v = putRow w b (.cells (c.setIfInBounds k v) e fr) := by
 unfold World.setCell putRow
 congr 1
 apply Array.ext_getElem?
 intro i
 rw [Array.getElem?_modify,Array.getElem?_setIfInBounds]
 by_cases h : b = i
 ·subst h
  obtain ⟨h1,h2⟩ := Array.getElem?_eq_some_iff.1 hh
  simp [h1,h2]
 ·simp [h]
theorem putRow_putRow (w : World) (b : Nat) (G H : Go.Obj) : putRow (putRow w b G) b H = putRow w b H := by
 unfold putRow
 congr 1
 apply Array.ext_getElem?
 intro i
 simp only [Array.getElem?_setIfInBounds,Array.size_setIfInBounds]
 by_cases h : b = i
 ·subst h; simp
 ·simp [h]
theorem storeCells_run {e : TypeId} {fr : Nat × Nat} {b j : Nat} : ∀ (vs : List Value) (i : Nat) (w : World) (c : Array Value),w.heap[b]? = some (.cells c e fr)→Free c.size fr→j + i + vs.length ≤ c.size→(∀ v ∈ vs,v.oneCell' = true) →
  (storeCells ⟨b,j,none⟩ vs i).run P w = .ok () (putRow w b (.cells (layV c.toList (j + i) vs).toArray e fr))
 | [],i,w,c,hh,hf,hl,h1=>by
  simp only [storeCells,Sem.run_pure,layV]
  congr 1
  unfold putRow
  have : w.heap.setIfInBounds b (.cells c.toList.toArray e fr) = w.heap := by
   apply Array.ext_getElem?
   intro k
   rw [Array.getElem?_setIfInBounds]
   by_cases h : b = k
   ·subst h
    obtain ⟨h1,h2⟩ := Array.getElem?_eq_some_iff.1 hh
    simp [h1,h2]
   ·simp [h]
  rw [this]
 | v :: vs,i,w,c,hh,hf,hl,h1=>by
  simp only [List.length_cons] at hl
  have hlt : j + i < c.size := by omega
  have hcell : w.cell? ⟨b,j + i,none⟩ = some c[j + i] := by simp [World.cell?,hh,hlt]
  have hfz : w.frozen? ⟨b,j + i,none⟩ = false := by
   have := hf.out (j + i) hlt
   simp only [World.frozen?,hh]
   simpa using this
  have ih := storeCells_run vs (i + 1) (putRow w b (.cells (c.setIfInBounds (j + i) v) e fr)) (c.setIfInBounds (j + i) v) (putRow_same _ (Array.getElem?_eq_some_iff.1 hh).1) (by simpa using hf) (show j + (i + 1) + vs.length ≤ (c.setIfInBounds (j + i) v).size by simp; omega) (fun x hx=>h1 x (by simp [hx]))
  simp only [storeCells,Sem.run_bind,add_mk,run_store P _ _ _ _ (h1 v (by simp)),hcell,hfz,Bool.false_eq_true,if_false,Result.andThen_ok,setCell_row hh,ih]
  rw [putRow_putRow]
  simp [layV,Nat.add_assoc]
theorem Move.write {b : Nat} {G : Go.Obj} (hb : own b) (hlt : b < E.w.heap.size) (hc : ∀ i,i < E.C b→(putRow E.w b G).cell? ⟨b,i,none⟩ = E.w.cell? ⟨b,i,none⟩) : Move own E { E with w := putRow E.w b G } where
 C _ := Nat.le_refl _
 cell k i hi := by
  by_cases h : k = b
  ·subst h; exact hc i hi
  ·show (putRow E.w b G).cell? _ = _
   unfold World.cell?
   rw [putRow_other _ h]
 born _ h := h
 len _ _ _ h := ⟨h,rfl,rfl,rfl⟩
 os := rfl
 tape := rfl
 output := rfl
 size := by show E.w.heap.size ≤ _; rw [putRow_size]; exact Nat.le_refl _
 block k _ hn := putRow_other _ (by rintro rfl; exact hn hb)
 com _ _ := rfl
theorem Inv.write {tmps} (h : Inv own tm E st tmps) {p : Nat} {ob ob' : Obj} {b : Nat} {G : Go.Obj} (ho : look st.O p = some ob) (hb : E.blk p = some b) (hl : ob'.len = ob.len)
  (hc : ∀ i,i < E.C b→(putRow E.w b G).cell? ⟨b,i,none⟩ = E.w.cell? ⟨b,i,none⟩) (hx : ObjOK { E with w := putRow E.w b G } p ob') :
  Inv own tm { E with w := putRow E.w b G } { st with O := put st.O p ob' } tmps := by
 have hown := h.ownb p b (by rw [ho]; simp) hb
 have hlt := h.lt ho hb
 have mv := Move.write (G := G) hown hlt hc
 have hpres : ∀ q,look (put st.O p ob') q ≠ none→look st.O q ≠ none := by
  intro q hq
  rw [look_put] at hq
  by_cases hpq : p = q
  ·subst hpq; rw [ho]; simp
  ·simpa [hpq] using hq
 refine h.change mv rfl rfl ?_ ?_ ?_ ?_ ?_ ?_
 ·intro q
  show E.len q = _
  rw [look_put,h.len q]
  by_cases hpq : p = q
  ·subst hpq; simp [ho,hl]
  ·simp [hpq]
 ·intro q x hq
  have hq : look (put st.O p ob') q = some x := hq
  rw [look_put] at hq
  by_cases hpq : p = q
  ·subst hpq; simp at hq; subst hq; exact hx
  ·simp [hpq] at hq
   refine (h.objs q x hq).ext mv.toExt rfl rfl rfl fun b' hb'=>⟨putRow_other _ ?_,rfl⟩
   rintro rfl
   exact hpq (h.sep p q b' (by rw [ho]; simp) (by rw [hq]; simp) hb hb')
 ·intro q r b' hq hr; exact h.sep q r b' (hpres q hq) (hpres r hr)
 ·intro q b' hq; exact h.ownb q b' (hpres q hq)
 ·intro k hk
  show k < (putRow E.w b G).heap.size
  rw [putRow_size]; exact h.good k hk
 ·intro q hq; exact h.born q (hpres q hq)
theorem lay_get_other {vs : List Value} {i : Nat} {xs : List Value} {k : Nat} (h : k < i) : (layV vs i xs)[k]? = vs[k]? := by
 induction xs generalizing vs i with
 | nil=>rfl
 | cons x xs ih=>rw [layV,ih (by omega),List.getElem?_set_ne (by omega)]
theorem storeVar_run {t : TypeId} {s b j : Nat} {v : Value} {e : TypeId} {fr : Nat × Nat} {w : World} {c : Array Value} (hs : sizeT P t = some s) (hv : v.cells.size = s) (hh : w.heap[b]? = some (.cells c e fr)) (hf : Free c.size fr) (hl : j + s ≤ c.size)
  (h1 : ∀ x ∈ v.cells.toList,x.oneCell' = true) : (Instr.storeAt t (.pointer (some ⟨b,j,none⟩)) v).run P w = .ok () (putRow w b (.cells (layV c.toList j v.cells.toList).toArray e fr)) := by
 have := storeCells_run (P := P) (e := e) (fr := fr) (b := b) (j := j) v.cells.toList 0 w c hh hf (by simp [hv]; omega) h1
 simp only [Nat.add_zero] at this
 simp only [Instr.storeAt,Instr.sureAddr,storeVar,Sem.run_bind,Sem.run_pure,Result.andThen_ok,size_run hs,hv,ne_eq,not_true_eq_false,if_false,this]
theorem lay_more {vs ws : List Value} {i : Nat} {xs : List Value} (h : i + xs.length ≤ vs.length) (hp : ∀ (k : Nat) (v : Value),vs[k]? = some v→ws[k]? = some v) :
  ∀ (k : Nat) (v : Value),(layV vs i xs)[k]? = some v→(layV ws i xs)[k]? = some v := by
 induction xs generalizing vs ws i with
 | nil=>exact hp
 | cons x xs ih =>
  simp only [List.length_cons] at h
  refine ih (vs := vs.set i x) (ws := ws.set i x) (i := i + 1) (by simp; omega) ?_
  intro k v hk
  rw [List.getElem?_set] at hk ⊢
  split at hk
  ·rename_i e
   subst e
   split at hk
   ·cases hk
    have : i < ws.length := by
     have := hp i vs[i] (by simp)
     exact (List.getElem?_eq_some_iff.1 this).1
    simp [this]
   ·cases hk
  ·rename_i e
   rw [if_neg e]; exact hp k v hk
theorem set_inside {l : List MV} {s : Nat} (h : ∀ e ∈ l,e.cells.length = s) {i : Nat} (hi : i < l.length) {j : Nat} {cs : List MV} (hc : j + cs.length ≤ s) :
  setCells (l.flatMap MV.cells) (i * s + j) cs = setCells (l.flatMap MV.cells) (i * s) (setCells l[i].cells j cs) := by
 have hel := h _ (List.getElem_mem hi)
 have e1 : l = l.take i ++ l[i] :: l.drop (i + 1) := by rw [← List.drop_eq_getElem_cons hi,List.take_append_drop]
 have hA : ((l.take i).flatMap MV.cells).length = i * s := by
  rw [flat_len (fun e he=>h e (List.mem_of_mem_take he)),List.length_take,Nat.min_eq_left (Nat.le_of_lt hi)]
 have e2 : l.flatMap MV.cells = (l.take i).flatMap MV.cells ++ l[i].cells ++ (l.drop (i + 1)).flatMap MV.cells := by
  have := congrArg (List.flatMap MV.cells) e1
  rw [this]
  simp only [List.flatMap_append,List.flatMap_cons,List.append_assoc]
 rw [e2,← hA,setCells_mid _ _ _ _ (by rw [setCells_length])]
 have e3 : l[i].cells = l[i].cells.take j ++ (l[i].cells.drop j).take cs.length ++ l[i].cells.drop (j + cs.length) := by
  rw [List.append_assoc,← List.drop_drop,List.take_append_drop,List.take_append_drop]
 have hm : ((l[i].cells.drop j).take cs.length).length = cs.length := by simp; omega
 have ht : (l[i].cells.take j).length = j := by simp; omega
 have lhs := setCells_mid cs ((l[i].cells.drop j).take cs.length) ((l.take i).flatMap MV.cells ++ l[i].cells.take j) (l[i].cells.drop (j + cs.length) ++ (l.drop (i + 1)).flatMap MV.cells) hm
 have rhs := setCells_mid cs ((l[i].cells.drop j).take cs.length) (l[i].cells.take j) (l[i].cells.drop (j + cs.length)) hm
 rw [ht,← e3] at rhs
 rw [rhs]
 have e4 : (l.take i).flatMap MV.cells ++ l[i].cells ++ (l.drop (i + 1)).flatMap MV.cells = (l.take i).flatMap MV.cells ++ l[i].cells.take j ++ (l[i].cells.drop j).take cs.length ++ (l[i].cells.drop (j + cs.length) ++ (l.drop (i + 1)).flatMap MV.cells) := by
  conv=>lhs; rw [e3]
  simp only [List.append_assoc]
 rw [e4]
 have e5 : ((l.take i).flatMap MV.cells ++ l[i].cells.take j).length = ((l.take i).flatMap MV.cells).length + j := by rw [List.length_append,ht]
 rw [← e5,lhs]
 simp only [List.append_assoc]
theorem op_store (hi : Inv own tm E st a.tmps) {t : TypeId} {x y : Operand} {x' y' : X} {s : Nat} (hx : trX tm x = some x') (hy : trX tm y = some y') (ho : o.op = .store t x y) (hs : sizeT P t = some s)
  {v : MV} {st' : DS} (h : storeV s (st.rd x') (st.rd y') st = some (v,st')) : v = .undef ∧ OpOK P own tm nm E a o st' .undef := by
 have rx := rd_ok hi hx
 have ry := rd_ok hi hy
 generalize st.rd x' = mx at h rx
 generalize st.rd y' = my at h ry
 have fin : ∀ {E' : Env} {w' : World},(Instr.storeAt t (a.eval x) (a.eval y)).run P E.w = .ok () w'→E'.w = w'→Move own E E'→E'.born = E.born→Inv own tm E' st' a.tmps→OpOK P own tm nm E a o st' .undef := by
  intro E' w' hrun hw m hb i'
  refine OpOK.skip (E' := E') ?_ m (fun p hp=>.inl (hb ▸ hp)) i'
  unfold execOp
  rw [ho,hw]
  simp only [Sem.run_bind,hrun,Result.andThen_ok,Sem.run_pure]
 generalize a.eval x = vx at rx fin
 generalize hvy : a.eval y = vy at ry fin
 unfold storeV at h
 split at h
 ·rename_i p j
  split at h
  ·rename_i l hl
   split at h
   ·rename_i hc
    obtain ⟨hfit,hsz,hle⟩ := hc
    cases h
    refine ⟨rfl,?_⟩
    have ok := hi.objs p _ hl
    cases ok with
    | cells hb hh hr hcc h0 =>
     rename_i b vs e
     cases rx with
     | ptr _ _ hp =>
      obtain ⟨b',hb',rfl⟩ := hp (by rw [hi.len,hl]; simp)
      obtain rfl : b' = b := Option.some.inj (hb'.symm.trans hb)
      obtain ⟨rc,cc⟩ := ry.cells hfit
      have hcs : vy.cells.size = s := by rw [← hsz,rc.length]; simp
      have hrun := storeVar_run (P := P) (j := j) hs hcs hh (free_new _) (by rw [List.size_toArray,← hr.length]; exact hle) (rc.one cc)
      have hcom : ∀ i,i < E.C b'→(putRow E.w b' (.cells (layV vs.toArray.toList j vy.cells.toList).toArray e (0,0))).cell? ⟨b',i,none⟩ = E.w.cell? ⟨b',i,none⟩ := by
       intro i hi'; rw [h0] at hi'; omega
      have mv := Move.write (own := own) (G := .cells (layV vs.toArray.toList j vy.cells.toList).toArray e (0,0)) (hi.ownb p b' (by rw [hl]; simp) hb) (hi.lt hl hb) hcom
      refine fin hrun rfl mv rfl (hi.write hl hb (by simp [Obj.len,setCells_length]) hcom ?_)
      refine .cells hb (putRow_same _ (hi.lt hl hb)) (lay_rel (hr.ext mv.toExt) j (rc.ext mv.toExt)) (fun c hc=>?_) h0
      rcases mem_setCells hc with h | h
      ·exact hcc c h
      ·exact cc c h
   ·cases h
  ·cases h
 ·rename_i p i j n
  split at h
  ·rename_i v' st1 hlend
   obtain ⟨E1,m1,w1,b1,i1,rv,pv,_,_,_⟩ := lend_sound hi ry hlend
   have hfit := lend_fit hlend
   obtain ⟨rc,cc⟩ := rv.cells hfit
   have rx1 := rx.ext m1.toExt
   split at h
   ·rename_i s' l hl
    split at h
    ·rename_i e he
     split at h
     ·rename_i hc
      obtain ⟨hn,hsz,hle,hpos⟩ := hc
      cases h
      subst hn
      refine ⟨rfl,?_⟩
      have hlt : i < l.length := (List.getElem?_eq_some_iff.1 he).1
      obtain rfl : l[i] = e := (List.getElem?_eq_some_iff.1 he).2
      have ok := i1.objs p _ hl
      cases ok with
      | el0=>simp at hlt
      | el hb hsz' h0 hcp hlen hu hrl hrow =>
       rename_i b vs
       cases rx1 with
       | eptr _ _ hp =>
        obtain ⟨b',hb',rfl⟩ := hp (by rw [i1.len,hl]; rfl)
        obtain rfl : b' = b := Option.some.inj (hb'.symm.trans hb)
        obtain ⟨c,te,fr,hh,hcs,hf,hpre⟩ := hrow.row
        have hC0 := hrow.not rfl
        have hcsz : vy.cells.size = s := by rw [← hsz,rc.length]; simp
        have hvl : vs.length = l.length * s' := by rw [← hrl.length,flat_len fun e he=>(hu e he).1]
        have hmul : (i + 1) * s' ≤ l.length * s' := Nat.mul_le_mul_right _ hlt
        rw [Nat.succ_mul] at hmul
        have hcap : l.length * s' ≤ E1.cap p * s' := Nat.mul_le_mul_right _ hcp
        have hroom : i * s' + j + s ≤ c.size := by rw [hcs]; omega
        rw [hsz'] at fin
        have hrun := storeVar_run (P := P) (j := i * s' + j) hs hcsz hh hf hroom (rc.one cc)
        rw [w1] at hrun
        have hcom : ∀ q,q < E1.C b'→(putRow E1.w b' (.cells (layV c.toList (i * s' + j) vy.cells.toList).toArray te fr)).cell? ⟨b',q,none⟩ = E1.w.cell? ⟨b',q,none⟩ := by
         intro q hq; rw [hC0] at hq; omega
        have mv := Move.write (own := own) (G := .cells (layV c.toList (i * s' + j) vy.cells.toList).toArray te fr) (i1.ownb p b' (by rw [hl]; simp) hb) (i1.lt hl hb) hcom
        have hmem := List.getElem_mem hlt
        have hel := (hu _ hmem).1
        have hnew : ∃ e',(if s' = 1 then v' else MV.agg (setCells l[i].cells j v'.cells)) = e' ∧ e'.cells = setCells l[i].cells j v'.cells ∧ Pure e' := by
         refine ⟨_,rfl,?_⟩
         split
         ·rename_i hs1
          subst hs1
          have hj : j = 0 := by omega
          have hs1 : s = 1 := by omega
          subst hj; subst hs1
          refine ⟨?_,pv⟩
          obtain ⟨q,hq⟩ := List.length_eq_one_iff.1 hsz
          obtain ⟨r,hr⟩ := List.length_eq_one_iff.1 hel
          rw [hq,hr]; rfl
         ·refine ⟨rfl,.agg fun c hc=>?_⟩
          rcases mem_setCells hc with h | h
          ·exact pure_cells (hu _ hmem).2.2 c h
          ·exact pure_cells pv c h
        obtain ⟨e',he',hec,hep⟩ := hnew
        rw [he'] at fin ⊢
        have helen : e'.cells.length = s' := by rw [hec,setCells_length]; exact hel
        have hecell : ∀ c ∈ e'.cells,c.cell = true := by
         rw [hec]
         intro c hc
         rcases mem_setCells hc with h | h
         ·exact (hu _ hmem).2.1 c h
         ·exact cc c h
        have hflat : (l.set i e').flatMap MV.cells = setCells (l.flatMap MV.cells) (i * s' + j) v'.cells := by
         rw [flat_set (fun e he=>(hu e he).1) hlt helen,hec]
         exact (set_inside (fun e he=>(hu e he).1) hlt (by rw [hsz]; exact hle)).symm
        refine fin hrun (by show putRow E1.w b' _ = putRow E.w b' _; rw [w1]) (m1.trans mv) b1 (i1.write hl hb (by simp [Obj.len]) hcom ?_)
        refine .el hb hsz' h0 (by simpa using hcp) (by simpa using hlen) (uni_set hu helen hecell hep) (vs := layV vs (i * s' + j) vy.cells.toList) ?_ ⟨⟨_,te,fr,putRow_same _ (i1.lt hl hb),?_,?_,?_⟩,?_,fun _=>hC0⟩
        ·rw [hflat]; exact lay_rel (hrl.ext mv.toExt) _ (rc.ext mv.toExt)
        ·simp [lay_length,hcs]
        ·simpa [lay_length] using hf
        ·intro q x hq
         rw [List.getElem?_toArray]
         refine lay_more (by rw [hvl]; simp [hcsz]; omega) (fun k y hk=>?_) q x hq
         simpa using hpre k y hk
        ·rw [show ({ E1 with w := putRow E1.w b' (.cells (layV c.toList (i * s' + j) vy.cells.toList).toArray te fr) } : Env).C b' = 0 from hC0]; omega
     ·cases h
    ·cases h
   ·rename_i l hl
    split at h
    ·rename_i bt hbt
     split at h
     ·rename_i hc
      obtain ⟨hn,hin,hj,hs1⟩ := hc
      cases h
      subst hn; subst hj; subst hs1
      refine ⟨rfl,?_⟩
      have ok := i1.objs p _ hl
      cases ok with
      | byt0=>simp at hin
      | byt hb hsz' hcp hlen hrow =>
       rename_i b
       cases rx1 with
       | eptr _ _ hp =>
        obtain ⟨b',hb',rfl⟩ := hp (by rw [i1.len,hl]; rfl)
        obtain rfl : b' = b := Option.some.inj (hb'.symm.trans hb)
        obtain ⟨c,te,fr,hh,hcs,hf,hpre⟩ := hrow.row
        have hC0 := hrow.not rfl
        have hvb : vy = byteV bt := asByte_rel hbt rv
        subst hvb
        rw [hsz'] at fin
        simp only [Nat.mul_one,Nat.add_zero] at fin hcs
        have hroom : i + 1 ≤ c.size := by omega
        have hrun := storeVar_run (P := P) (j := i) (v := byteV bt) hs rfl hh hf hroom (by intro x hx; simp [byteV,Value.cells] at hx; subst hx; rfl)
        rw [w1] at hrun
        have hcom : ∀ q,q < E1.C b'→(putRow E1.w b' (.cells (layV c.toList i (byteV bt).cells.toList).toArray te fr)).cell? ⟨b',q,none⟩ = E1.w.cell? ⟨b',q,none⟩ := by
         intro q hq; rw [hC0] at hq; omega
        have mv := Move.write (own := own) (G := .cells (layV c.toList i (byteV bt).cells.toList).toArray te fr) (i1.ownb p b' (by rw [hl]; simp) hb) (i1.lt hl hb) hcom
        refine fin hrun (by show putRow E1.w b' _ = putRow E.w b' _; rw [w1]) (m1.trans mv) b1 (i1.write hl hb (by simp [Obj.len]) hcom ?_)
        refine .byt hb hsz' (by simpa using hcp) (by simpa using hlen) ⟨⟨_,te,fr,putRow_same _ (i1.lt hl hb),?_,?_,?_⟩,?_,fun _=>hC0⟩
        ·simp [lay_length,hcs]
        ·simpa [lay_length] using hf
        ·intro q x hq
         rw [List.getElem?_toArray]
         refine lay_more (vs := l.map byteV) (by simp [byteV,Value.cells]; omega) (fun k y hk=>?_) q x (by simpa [layV,byteV,Value.cells,List.map_set] using hq)
         simpa using hpre k y hk
        ·rw [show ({ E1 with w := putRow E1.w b' (.cells (layV c.toList i (byteV bt).cells.toList).toArray te fr) } : Env).C b' = 0 from hC0]; omega
     ·cases h
    ·cases h
   ·cases h
  ·cases h
 ·cases h
end Go.Mini
namespace Go.Mini
open Go Go.RowKit
variable {P : Program} {own : Nat→Prop} {tm : Nat→Bool} {E : Env} {st : DS} {a : Act} {nm : Nat} {o : Oper}
theorem look_drop {α : Type} (l : List (Nat × α)) (n m : Nat) : look (drop l n) m = if n = m then none else look l m := by
 induction l with
 | nil=>simp [drop,look]
 | cons x l ih =>
  obtain ⟨k,v⟩ := x
  by_cases h : k = n
  ·subst h
   simp only [drop,if_true,ih,look]
   by_cases h2 : k = m
   ·simp [h2]
   ·simp [h2]
  ·simp only [drop,if_neg h,look,ih]
   by_cases h2 : k = m
   ·subst h2; simp [Ne.symm h]
   ·simp [h2]
theorem Inv.swap {tmps} (h : Inv own tm E st tmps) {p : Nat} {ob ob' : Obj} (hp : look st.O p = some ob) (hn : ¬ E.born nm) {E' : Env} (mv : Move own E E') (hb : ∀ q,E'.born q ↔ E.born q ∨ q = nm)
  (hl : ∀ q,E'.len q = if q = nm then some ob'.len else if q = p then none else E.len q) (hbk : ∀ q,q ≠ nm→E'.blk q = E.blk q) (hcp : ∀ q,q ≠ nm→E'.cap q = E.cap q) (hsz : ∀ q,q ≠ nm→E'.sz q = E.sz q)
  (hnew : ∀ b,E'.blk nm = some b→own b ∧ ∀ q,q ≠ p→look st.O q ≠ none→E.blk q ≠ some b)
  (hold : ∀ q b,q ≠ p→look st.O q ≠ none→E.blk q = some b→E'.w.heap[b]? = E.w.heap[b]? ∧ E'.C b = E.C b) (hgood : ∀ b,0 < E'.C b→b < E'.w.heap.size) (hx : ObjOK E' nm ob') :
  Inv own tm E' { st with O := put (drop st.O p) nm ob' } tmps := by
 have hpn : p ≠ nm := by rintro rfl; exact hn (h.born p (by rw [hp]; simp))
 have hlook : ∀ q,look (put (drop st.O p) nm ob') q = if q = nm then some ob' else if q = p then none else look st.O q := by
  intro q
  rw [look_put,look_drop]
  by_cases h1 : q = nm
  ·subst h1; simp
  ·by_cases h2 : q = p
   ·subst h2; simp [Ne.symm h1,h1]
   ·simp [h1,h2,Ne.symm h1,Ne.symm h2]
 have hsome : ∀ q,look (put (drop st.O p) nm ob') q ≠ none→q = nm ∨ (q ≠ nm ∧ q ≠ p ∧ look st.O q ≠ none) := by
  intro q hq
  rw [hlook] at hq
  by_cases h1 : q = nm
  ·exact .inl h1
  ·by_cases h2 : q = p
   ·subst h2; simp [h1] at hq
   ·exact .inr ⟨h1,h2,by simpa [h1,h2] using hq⟩
 refine h.change mv rfl rfl ?_ ?_ ?_ ?_ hgood ?_
 ·intro q
  show E'.len q = (look (put (drop st.O p) nm ob') q).map Obj.len
  rw [hl,hlook]
  by_cases h1 : q = nm
  ·simp [h1]
  ·by_cases h2 : q = p
   ·simp [h1,h2]
   ·simp [h1,h2,h.len]
 ·intro q x hq
  have hq : look (put (drop st.O p) nm ob') q = some x := hq
  rw [hlook] at hq
  by_cases h1 : q = nm
  ·subst h1; simp at hq; subst hq; exact hx
  ·by_cases h2 : q = p
   ·rw [if_neg h1,if_pos h2] at hq; cases hq
   ·simp only [h1,h2,if_false] at hq
    exact (h.objs q x hq).ext mv.toExt (hbk q h1) (hcp q h1) (hsz q h1) fun b hbb=>hold q b h2 (by rw [hq]; simp) hbb
 ·intro q r b hq hr hqb hrb
  rcases hsome q hq with rfl | ⟨q1,q2,q3⟩ <;> rcases hsome r hr with rfl | ⟨r1,r2,r3⟩
  ·rfl
  ·rw [hbk r r1] at hrb
   exact ((hnew b hqb).2 r r2 r3 hrb).elim
  ·rw [hbk q q1] at hqb
   exact ((hnew b hrb).2 q q2 q3 hqb).elim
  ·rw [hbk q q1] at hqb
   rw [hbk r r1] at hrb
   exact h.sep q r b q3 r3 hqb hrb
 ·intro q b hq hqb
  rcases hsome q hq with rfl | ⟨q1,q2,q3⟩
  ·exact (hnew b hqb).1
  ·rw [hbk q q1] at hqb; exact h.ownb q b q3 hqb
 ·intro q hq
  rcases hsome q hq with rfl | ⟨q1,q2,q3⟩
  ·exact (hb q).2 (.inr rfl)
  ·exact (hb q).2 (.inl (h.born q q3))
theorem cell_heap {w w' : World} (h : w'.heap = w.heap) (ad : Addr) : w'.cell? ad = w.cell? ad := by
 unfold World.cell?; rw [h]
structure Src (P : Program) (E : Env) (s n : Nat) (x : Value) (vs : List Value) : Prop where
 len : (Builtin.lenOf x).run P E.w = .ok n E.w
 cells : ∀ wd,wd.heap = E.w.heap→(Builtin.firstCells s n x).run P wd = .ok vs.toArray wd
 size : vs.length = n * s
 one : ∀ v ∈ vs,v.oneCell' = true
theorem src_bytes (hi : Inv own tm E st a.tmps) {v : MV} {x : Value} {l : List UInt8} (hr : RelV E v x) (h : bytesOf v st = some l) : Src P E 1 l.length x (l.map byteV) ∧ l.length < 2 ^ 62 := by
 have one : ∀ v ∈ l.map byteV,v.oneCell' = true := by
  intro v hv
  obtain ⟨b,_,rfl⟩ := List.mem_map.1 hv
  rfl
 rcases bytes_view hi hr h with ⟨_,rfl,hl⟩ | ⟨ad,cap,rfl,h2,h3,h4,h5⟩
 ·refine ⟨⟨by simp [Builtin.lenOf]; show l.toArray.size = _; simp,fun wd hwd=>?_,by simp,one⟩,hl⟩
  simp only [Builtin.firstCells,Sem.run_pure,ByteArray.extract_mk]
  congr 1
  simp [byteV]
 ·refine ⟨⟨by simp [Builtin.lenOf],fun wd hwd=>?_,by simp,one⟩,h3⟩
  cases ad with
  | none=>have := h4 rfl; subst this; rfl
  | some d =>
   have := run_loadCells_list (P := P) wd d (l.map byteV) (fun j y hj=>by
    rw [cell_heap hwd]
    rw [List.getElem?_map] at hj
    cases hb : l[j]? with
    | none=>rw [hb] at hj; cases hj
    | some b=>rw [hb] at hj; cases hj; exact h5 d rfl j b hb)
   simp only [List.length_map] at this
   simpa [Builtin.firstCells] using this
theorem src_elems (hi : Inv own tm E st a.tmps) {v : MV} {x : Value} {s : Nat} {l : List MV} (hr : RelV E v x) (h : elemsOf s v st = some l) (h0 : 0 < s) : ∃ vs,Src P E s l.length x vs ∧ l.length < 2 ^ 62 ∧ RelL E (l.flatMap MV.cells) vs ∧ Uni s l := by
 have mk : ∀ {ad : Option Addr} {cap : Nat} {vs : List Value},x = .slice ad l.length cap→RelL E (l.flatMap MV.cells) vs→Uni s l→(ad = none→l = [])→(∀ d,ad = some d→∀ (j : Nat) (y : Value),vs[j]? = some y→E.w.cell? (d.add j) = some y)→Src P E s l.length x vs := by
  intro ad cap vs hx hrl hu hn hc
  subst hx
  have hvl : vs.length = l.length * s := by rw [← hrl.length,flat_len fun e he=>(hu e he).1]
  refine ⟨by simp [Builtin.lenOf],fun wd hwd=>?_,hvl,hrl.one fun c hc=>?_⟩
  ·cases ad with
   | none =>
    have := hn rfl
    subst this
    have : vs = [] := by simpa using hvl
    subst this; rfl
   | some d =>
    have := run_loadCells_list (P := P) wd d vs (fun j y hj=>by rw [cell_heap hwd]; exact hc d rfl j y hj)
    rw [hvl] at this
    simpa [Builtin.firstCells] using this
  ·obtain ⟨e,he,hce⟩ := List.mem_flatMap.1 hc
   exact (hu e he).2.1 c hce
 unfold elemsOf at h
 split at h
 ·split at h
  ·rename_i hs
   cases h
   subst hs
   cases hr with
   | sl hc hl h0 hu hrl hh =>
    rename_i vs
    refine ⟨vs,mk rfl hrl hu ?_ ?_,hl,hrl,hu⟩
    ·rintro rfl
     by_cases h0 : l = []
     ·exact h0
     ·obtain ⟨ad,h1,_⟩ := hh h0; cases h1
    ·rintro d rfl j y hj
     have hne : l ≠ [] := by
      rintro rfl
      cases hrl; simp at hj
     obtain ⟨ad,h1,h2⟩ := hh hne
     cases h1
     rw [h2.at,add_mk]
     exact h2.cell j y hj
  ·cases h
 ·split at h
  ·rename_i hs
   cases h
   subst hs
   cases hr with
   | fsl hr =>
   cases hr with
   | sl hc hl h0 hu hrl hh =>
    rename_i vs
    refine ⟨vs,mk rfl hrl hu ?_ ?_,hl,hrl,hu⟩
    ·rintro rfl
     by_cases h0 : l = []
     ·exact h0
     ·obtain ⟨ad,h1,_⟩ := hh h0; cases h1
    ·rintro d rfl j y hj
     have hne : l ≠ [] := by
      rintro rfl
      cases hrl; simp at hj
     obtain ⟨ad,h1,h2⟩ := hh hne
     cases h1
     rw [h2.at,add_mk]
     exact h2.cell j y hj
  ·cases h
 ·cases h
  cases hr
  exact ⟨[],mk rfl .nil (fun e he=>by cases he) (fun _=>rfl) (fun d hd=>by cases hd),by decide,.nil,fun e he=>by cases he⟩
 ·rename_i p n
  split at h
  ·rename_i s' l' b hl
   split at h
   ·rename_i hn
    obtain ⟨hn,hs⟩ := hn
    cases h
    subst hn; subst hs
    cases hr with
    | own hb _ hh =>
     have hx := hh (by rw [hi.len,hl]; rfl)
     have ok := hi.objs p _ hl
     cases ok with
     | el0 k1 =>
      have hx' : x = .slice none 0 0 := by rw [hx]; unfold hdr; rw [k1]
      exact ⟨[],mk hx' .nil (fun e he=>by cases he) (fun _=>rfl) (fun d hd=>by cases hd),by decide,.nil,fun e he=>by cases he⟩
     | el k1 k2 k3 k4 k5 k6 k7 k8 =>
      rename_i bb vs
      have hx' : x = .slice (some ⟨bb,0,none⟩) l.length (E.cap p) := by rw [hx]; unfold hdr; rw [k1]
      refine ⟨vs,mk hx' k7 k6 (fun h=>by cases h) ?_,k5,k7,k6⟩
      rintro d hd j y hj
      cases hd
      rw [add_mk,Nat.zero_add]
      exact k8.cell hj
   ·cases h
  ·cases h
 ·cases h
theorem growBy_le {newLen : Nat} : ∀ (r c : Nat),256 ≤ c→c ≤ 2 * newLen→Builtin.growBy newLen r c ≤ 2 * newLen
 | 0,c,_,h=>h
 | r + 1,c,h0,h=>by
  unfold Builtin.growBy
  split
  ·exact h
  ·exact growBy_le r _ (by omega) (by omega)
theorem next_le {newLen oldCap : Nat} (h : oldCap < newLen) : Builtin.nextslicecap newLen oldCap ≤ 2 * newLen := by
 unfold Builtin.nextslicecap
 split
 ·omega
 ·split
  ·omega
  ·exact growBy_le 4 oldCap (by omega) (by omega)
theorem typeInfo_run {e : TypeId} {w : Nat} (h : bytesT P e = some w) (wd : World) : ∃ i : TypeInfo,(typeInfo e).run P wd = .ok i wd ∧ i.bytes = w := by
 unfold bytesT at h
 cases hi : P.info? e with
 | none=>rw [hi] at h; cases h
 | some i=>rw [hi] at h; exact ⟨i,by simp [typeInfo,hi],by simpa using h⟩
structure AppT (P : Program) (t u e : TypeId) (s w : Nat) (zv : Value) : Prop where
 ht : P.underlying t = some (.slice e)
 hd : ∃ du,P.underlying u = some du ∧ ∀ k,du ≠ .int k
 hs : sizeT P e = some s
 hw : bytesT P e = some w
 h0 : 0 < s
 hz : ∀ wd,(zeroValue e).run P wd = .ok zv wd
 hzs : zv.cells.size = s
theorem append_place {t u e : TypeId} {s w n m cap : Nat} {zv : Value} (T : AppT P t u e s w zv) {x : Value} {vs : List Value} (S : Src P E s n x vs) {base : Option Addr} (hc : m + n ≤ cap) {w' : World} {ats : Array TypeId} {ty : TypeId} (ha : ats = #[t,u])
  (hst : ∀ ad,base = some ad→(storeCells (ad.add (m * s)) vs).run P E.w = .ok () w') (hn : base = none→w' = E.w) :
  (Builtin.append_ ats ty #[.slice base m cap,x]).run P E.w = .ok (.slice base (m + n) cap) w' := by
 subst ha
 obtain ⟨du,hd,hdi⟩ := T.hd
 have hm : (match du with | .int k=>true | x=>false) = false := by
  cases du <;> first | rfl | exact (hdi _ rfl).elim
 unfold Builtin.append_
 simp only [List.getElem?_toArray,List.getElem?_cons_zero,List.getElem?_cons_succ,Sem.run_bind,under_run T.ht,Result.andThen_ok,size_run T.hs,Sem.run_pure,under_run hd,hm,Bool.false_eq_true,if_false,S.len,if_pos hc,Bool.not_false,if_true,S.cells _ rfl]
 cases base with
 | none =>
  rw [hn rfl]; rfl
 | some ad =>
  simp only [Sem.run_bind,hst ad rfl,Result.andThen_ok,Sem.run_pure]
theorem append_grow {t u e : TypeId} {s w n m cap : Nat} {zv : Value} (T : AppT P t u e s w zv) {x : Value} {vs old : List Value} (S : Src P E s n x vs) {base : Option Addr} (hc : ¬ m + n ≤ cap) (hlim : (m + n) * w ≤ 2 ^ 47) (hw : 0 < w) {ats : Array TypeId} {ty : TypeId} (ha : ats = #[t,u])
  (hold : ∀ wd,wd.heap = E.w.heap→(Builtin.firstCells s m (.slice base m cap)).run P wd = .ok old.toArray wd) (hsrc : ∀ wd,wd.heap = E.w.heap→(Builtin.firstCells s n x).run P wd = .ok vs.toArray wd) (hol : old.length = m * s) :
  ∃ cap' w' rest,(Builtin.append_ ats ty #[.slice base m cap,x]).run P E.w = .ok (.slice (some ⟨E.w.heap.size,0,none⟩) (m + n) cap') w' ∧ m + n ≤ cap' ∧ rest.length = (cap' - (m + n)) * s ∧ Grows E.w w' (.cells (old ++ vs ++ rest).toArray e) := by
 subst ha
 obtain ⟨du,hd,hdi⟩ := T.hd
 have hm : (match du with | .int k=>true | x=>false) = false := by
  cases du <;> first | rfl | exact (hdi _ rfl).elim
 obtain ⟨ti,hti,hbw⟩ := typeInfo_run T.hw E.w
 have hwne : ¬ ti.bytes = 0 := by rw [hbw]; omega
 have h1 : ¬ (((m + n : Nat) : Int) > IntKind.i64.max ∧ (False ∨ ti.bytes = 0)) := fun h=>by rcases h.2 with h | h; exact h; exact hwne h
 have h2 : ¬ (Builtin.nextslicecap (m + n) cap * ti.bytes > 2 ^ 48) := by
  have := next_le (newLen := m + n) (oldCap := cap) (by omega)
  rw [hbw]
  have := Nat.mul_le_mul_right w this
  rw [Nat.mul_assoc] at this
  omega
 have hq : Question.forced (.appendCap (m + n) cap e) = false := rfl
 have hch : (choose (.appendCap (m + n) cap e)).run P E.w = .ok ((Question.appendCap (m + n) cap e).cut (E.w.tape E.w.drawn (.appendCap (m + n) cap e))) E.w.drew := by
  simp only [run_choose,hq,Bool.false_eq_true,if_false]; rfl
 have hle : m + n ≤ (Question.appendCap (m + n) cap e).cut (E.w.tape E.w.drawn (.appendCap (m + n) cap e)) := by show _ ≤ _ + _; omega
 generalize (Question.appendCap (m + n) cap e).cut (E.w.tape E.w.drawn (.appendCap (m + n) cap e)) = cap' at hch hle
 obtain ⟨ti2,hti2,hbw2⟩ := typeInfo_run T.hw E.w.drew
 have hzc : (Builtin.zeroCells zv.cells (cap' - (m + n))) = (List.replicate (cap' - (m + n)) zv.cells.toList).flatten.toArray := by
  unfold Builtin.zeroCells
  rw [T.hzs]
  have := zrow T.h0 T.hzs (cap' - (m + n))
  rw [T.hzs] at this
  exact this
 refine ⟨cap',E.w.drew.alloc (.cells (old ++ vs ++ (List.replicate (cap' - (m + n)) zv.cells.toList).flatten).toArray e),(List.replicate (cap' - (m + n)) zv.cells.toList).flatten,?_,hle,by simp [T.hzs],⟨rfl,rfl,rfl,rfl⟩⟩
 unfold Builtin.append_
 simp only [List.getElem?_toArray,List.getElem?_cons_zero,List.getElem?_cons_succ,Sem.run_bind,under_run T.ht,Result.andThen_ok,size_run T.hs,Sem.run_pure,under_run hd,hm,Bool.false_eq_true,if_false,S.len,if_neg hc,Bool.not_false,if_true,hti,if_neg h1,if_neg h2,
  hch,hti2,run_askRoom,hold E.w.drew rfl,hsrc E.w.drew rfl,T.hz,hzc]
 simp only [newRow,Sem.run_bind,run_newObj,Result.andThen_ok,Sem.run_pure]
 simp
 rfl
structure AppZ (P : Program) (t u e : TypeId) (s w : Nat) (zv : Value) : Prop where
 ht : P.underlying t = some (.slice e)
 hd : ∃ k,P.underlying u = some (.int k)
 hs : sizeT P e = some s
 hw : bytesT P e = some w
 h0 : 0 < s
 hz : ∀ wd,(zeroValue e).run P wd = .ok zv wd
 hzs : zv.cells.size = s
theorem zeroCells_eq {s : Nat} {zv : Value} (h0 : 0 < s) (hzs : zv.cells.size = s) (n : Nat) : Builtin.zeroCells zv.cells n = (List.replicate n zv.cells.toList).flatten.toArray := by
 unfold Builtin.zeroCells
 rw [hzs]
 have := zrow h0 hzs n
 rw [hzs] at this
 exact this
theorem wrap_small {n : Nat} (h : n < 2 ^ 62) : IntKind.i64.wrap (n : Int) = n := by
 have : (n : Int) < 2 ^ 62 := by exact_mod_cast h
 simp [IntKind.wrap,IntKind.signed,IntKind.bits]; split <;> omega
theorem noughts_run {s n : Nat} {e : TypeId} {zv : Value} (h0 : 0 < s) (hzs : zv.cells.size = s) (hz : ∀ wd,(zeroValue e).run P wd = .ok zv wd) (wd : World) :
  (if n * s = 0 then (pure #[] : Sem (Array Value)) else do pure (Builtin.zeroCells (← zeroValue e).cells n)).run P wd = .ok (List.replicate n zv.cells.toList).flatten.toArray wd := by
 by_cases hn : n = 0
 ·subst hn; simp
 ·have : n * s ≠ 0 := Nat.mul_ne_zero hn (by omega)
  rw [if_neg this]
  simp only [Sem.run_bind,hz,Result.andThen_ok,Sem.run_pure,zeroCells_eq h0 hzs]
theorem append_placeZ {t u e : TypeId} {s w n m cap : Nat} {zv : Value} (T : AppZ P t u e s w zv) {k : IntKind} (hn62 : n < 2 ^ 62) (hlim : (m + n) * w ≤ 2 ^ 47) {base : Option Addr} (hc : m + n ≤ cap) {w' : World} {ats : Array TypeId} {ty : TypeId} (ha : ats = #[t,u])
  (hst : ∀ ad,base = some ad→(storeCells (ad.add (m * s)) (List.replicate n zv.cells.toList).flatten).run P E.w = .ok () w') (hn : base = none→w' = E.w) :
  (Builtin.append_ ats ty #[.slice base m cap,.int k n]).run P E.w = .ok (.slice base (m + n) cap) w' := by
 subst ha
 obtain ⟨k',hd⟩ := T.hd
 obtain ⟨ti,hti,hbw⟩ := typeInfo_run T.hw E.w
 have hn0 : ¬ ((n : Int) < 0) := by omega
 have hnw : n * w ≤ (m + n) * w := Nat.mul_le_mul_right _ (by omega)
 have hbig : ¬ ((n : Int) * ti.bytes > 2 ^ 48) := by
  rw [hbw]
  have : ((n * w : Nat) : Int) ≤ 2 ^ 47 := by exact_mod_cast Nat.le_trans hnw hlim
  simp only [Int.natCast_mul] at this
  omega
 unfold Builtin.append_
 have nr := noughts_run (P := P) (n := n) T.h0 T.hzs T.hz E.w
 simp only [List.getElem?_toArray,List.getElem?_cons_zero,List.getElem?_cons_succ,Sem.run_bind,under_run T.ht,Result.andThen_ok,size_run T.hs,Sem.run_pure,under_run hd,if_true,asInt,asIntOf,Sem.run_pure,Result.andThen_ok,wrap_small hn62,if_neg hn0,hti,if_neg hbig,Int.toNat_natCast,if_pos hc,Bool.not_true,Bool.false_eq_true,if_false,nr]
 cases base with
 | none =>
  rw [hn rfl]; rfl
 | some ad =>
  simp only [Sem.run_bind,hst ad rfl,Result.andThen_ok,Sem.run_pure]
theorem append_growZ {t u e : TypeId} {s w n m cap : Nat} {zv : Value} (T : AppZ P t u e s w zv) {k : IntKind} (hn62 : n < 2 ^ 62) {old : List Value} {base : Option Addr} (hc : ¬ m + n ≤ cap) (hlim : (m + n) * w ≤ 2 ^ 47) (hw : 0 < w) {ats : Array TypeId} {ty : TypeId} (ha : ats = #[t,u])
  (hold : ∀ wd,wd.heap = E.w.heap→(Builtin.firstCells s m (.slice base m cap)).run P wd = .ok old.toArray wd) (hol : old.length = m * s) :
  ∃ cap' w' rest,(Builtin.append_ ats ty #[.slice base m cap,.int k n]).run P E.w = .ok (.slice (some ⟨E.w.heap.size,0,none⟩) (m + n) cap') w' ∧ m + n ≤ cap' ∧ rest.length = (cap' - (m + n)) * s ∧ Grows E.w w' (.cells (old ++ (List.replicate n zv.cells.toList).flatten ++ rest).toArray e) := by
 subst ha
 obtain ⟨k',hd⟩ := T.hd
 obtain ⟨ti,hti,hbw⟩ := typeInfo_run T.hw E.w
 have hwne : ¬ ti.bytes = 0 := by rw [hbw]; omega
 have h1 : ¬ (((m + n : Nat) : Int) > IntKind.i64.max ∧ (True ∨ ti.bytes = 0)) := fun h=>by
  have h3 : m + n ≤ (m + n) * w := Nat.le_mul_of_pos_right _ hw
  have h4 := h.1
  have h5 : IntKind.i64.max = 2 ^ 63 - 1 := rfl
  rw [h5] at h4
  omega
 have h2 : ¬ (Builtin.nextslicecap (m + n) cap * ti.bytes > 2 ^ 48) := by
  have := next_le (newLen := m + n) (oldCap := cap) (by omega)
  rw [hbw]
  have := Nat.mul_le_mul_right w this
  rw [Nat.mul_assoc] at this
  omega
 have hn0 : ¬ ((n : Int) < 0) := by omega
 have hnw : n * w ≤ (m + n) * w := Nat.mul_le_mul_right _ (by omega)
 have hbig : ¬ ((n : Int) * ti.bytes > 2 ^ 48) := by
  rw [hbw]
  have : ((n * w : Nat) : Int) ≤ 2 ^ 47 := by exact_mod_cast Nat.le_trans hnw hlim
  simp only [Int.natCast_mul] at this
  omega
 have nr := noughts_run (P := P) (n := n) T.h0 T.hzs T.hz E.w.drew
 have hq : Question.forced (.appendCap (m + n) cap e) = false := rfl
 have hch : (choose (.appendCap (m + n) cap e)).run P E.w = .ok ((Question.appendCap (m + n) cap e).cut (E.w.tape E.w.drawn (.appendCap (m + n) cap e))) E.w.drew := by
  simp only [run_choose,hq,Bool.false_eq_true,if_false]; rfl
 have hle : m + n ≤ (Question.appendCap (m + n) cap e).cut (E.w.tape E.w.drawn (.appendCap (m + n) cap e)) := by show _ ≤ _ + _; omega
 generalize (Question.appendCap (m + n) cap e).cut (E.w.tape E.w.drawn (.appendCap (m + n) cap e)) = cap' at hch hle
 obtain ⟨ti2,hti2,hbw2⟩ := typeInfo_run T.hw E.w.drew
 have hzc : (Builtin.zeroCells zv.cells (cap' - (m + n))) = (List.replicate (cap' - (m + n)) zv.cells.toList).flatten.toArray := by
  unfold Builtin.zeroCells
  rw [T.hzs]
  have := zrow T.h0 T.hzs (cap' - (m + n))
  rw [T.hzs] at this
  exact this
 refine ⟨cap',E.w.drew.alloc (.cells (old ++ (List.replicate n zv.cells.toList).flatten ++ (List.replicate (cap' - (m + n)) zv.cells.toList).flatten).toArray e),(List.replicate (cap' - (m + n)) zv.cells.toList).flatten,?_,hle,by simp [T.hzs],⟨rfl,rfl,rfl,rfl⟩⟩
 unfold Builtin.append_
 simp only [List.getElem?_toArray,List.getElem?_cons_zero,List.getElem?_cons_succ,Sem.run_bind,under_run T.ht,Result.andThen_ok,size_run T.hs,Sem.run_pure,under_run hd,if_true,asInt,asIntOf,Sem.run_pure,Result.andThen_ok,wrap_small hn62,if_neg hn0,if_neg hbig,Int.toNat_natCast,if_neg hc,Bool.not_true,Bool.false_eq_true,if_false,hti,if_neg h1,if_neg h2,
  hch,hti2,run_askRoom,hold E.w.drew rfl,nr,T.hz,hzc]
 simp only [newRow,Sem.run_bind,run_newObj,Result.andThen_ok,Sem.run_pure]
 simp
 rfl
end Go.Mini
