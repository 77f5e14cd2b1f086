import Derived.Test.YtbembkamcdlhbaaGreatDoorZASb
set_option linter.unusedSimpArgs false
set_option linter.unusedVariables false
namespace Go.Proofs.YtbembkamcdlhbaaGreatDoor
open Go.RowKit
inductive VK where
 | int (k:IntKind)
 | bool
 | bit
 | nat
def rX (b:Bool):Int:=match b with|true=>1|false=>0
def zh (op:BinOp) (k:IntKind) (x y:Int):Int :=
 let a:=BitVec.ofInt k.bits x
 let b:=BitVec.ofInt k.bits y
 k.wrap (match op with | .and=>a&&&b | .or=>a|||b | .xor=>a ^^^ b|_=>a &&& ~~~b).toNat
theorem Um (op:BinOp) (k:IntKind) (x y:Int):DN op k x y = .int k (zh op k x y):=rfl
def rM (op:BinOp) (k:IntKind) (a b:Int):Int:=match op with
 | .shl=>k.wrap (a*2^min b.toNat k.bits)
 | .shr=>a.fdiv (2^min b.toNat k.bits)
 | .add=>k.wrap (a+b)
 | .sub=>k.wrap (a-b)
 | .mul=>k.wrap (a*b)
 | .quo=>k.wrap (a.tdiv b)
 | .rem=>a.tmod b
 | .and=>zh .and k a b
 | .or=>zh .or k a b
 | .xor=>zh .xor k a b
 | .andNot=>zh .andNot k a b
 | .eql=>rX (a==b)
 | .neq=>rX (a != b)
 | .lss=>rX (decide (a<b))
 | .leq=>rX (decide (a≤b))
 | .gtr=>rX (decide (a>b))
 | .geq=>rX (decide (a≥b))
def Un:Nat→Nat→List Nat
 | 0,_=>[]
 | f+1,n=>match n with|0=>[]|m+1=>(m+1)%4294967296::Un f ((m+1)/4294967296)
def Uo (n:Nat):List Nat:=Un n n
def zY (n:Nat):Nat:=(Uo n).length
inductive X where
 | lit (n:Int)
 | var (k:VK) (i:Nat)
 | bin (op:BinOp) (k:IntKind) (a b:X)
 | conv (k:IntKind) (a:X)
 | com (k:IntKind) (a:X)
 | not (a:X)
 | and (a b:X)
 | beq (a b:X)
 | min (a b:X)
 | max (a b:X)
 | ite (c a b:X)
 | dlen (a:X)
abbrev ry:=Nat→Int
def VK.norm:VK→Int→Int
 | .int k,n=>k.wrap n
 | .bool,n=>rX (n != 0)
 | .bit,n=>rX (n != 0)
 | .nat,n=>Int.ofNat n.toNat
def JD (k:IntKind) (n:Int):Int:=zh .xor k (if k.signed then -1 else k.max) n
def X.den (s:ry):X→Int
 | .lit n=>n
 | .var k i=>k.norm (s i)
 | .bin op k a b=>rM op k (a.den s) (b.den s)
 | .conv k a=>k.wrap (a.den s)
 | .com k a=>JD k (a.den s)
 | .not a=>rX (!(a.den s != 0))
 | .and a b=>rX (a.den s != 0&&b.den s != 0)
 | .beq a b=>rX ((a.den s != 0)==(b.den s != 0))
 | .min a b=>if b.den s<a.den s then b.den s else a.den s
 | .max a b=>if b.den s>a.den s then b.den s else a.den s
 | .ite c a b=>if c.den s=0 then b.den s else a.den s
 | .dlen a=>Int.ofNat (zY (a.den s).toNat)
theorem ut (b:Bool):(rX b != 0)=b:=by cases b<;>rfl
def uu {β:Sort _} (n:Nat) (k:Nat→β):β:=match n with|0=>k 0|m+1=>k (Nat.succ m)
theorem tZ {β:Sort _} (n:Nat) (k:Nat→β):uu n k=k n:=by cases n<;>rfl
def DW {β:Sort _} (n:Int) (k:Int→β):β:=match n with | .ofNat m=>uu m fun m=>k (.ofNat m) | .negSucc m=>uu m fun m=>k (.negSucc m)
theorem DX {β:Sort _} (n:Int) (k:Int→β):DW n k=k n:=by cases n<;>simp[DW,tZ]
def BD {α:Type} {β:Sort _} : List α→(List α→β)→β
 | [],k=>k []
 | a::l,k=>BD l fun l'=>k (a::l')
theorem DY {α:Type} {β:Sort _} : ∀ (l:List α) (k:List α→β),BD l k=k l
 | [],k=>rfl
 | a::l,k=>by rw[BD,DY l]
def uw {β:Sort _} (x:X) (k:X→β):β:=match x with
 | .lit n=>k (.lit n)
 | .var a b=>k (.var a b)
 | .bin o q a b=>k (.bin o q a b)
 | .conv q a=>k (.conv q a)
 | .com q a=>k (.com q a)
 | .not a=>k (.not a)
 | .and a b=>k (.and a b)
 | .beq a b=>k (.beq a b)
 | .min a b=>k (.min a b)
 | .max a b=>k (.max a b)
 | .ite c a b=>k (.ite c a b)
 | .dlen a=>k (.dlen a)
theorem acH {β:Sort _} (x:X) (k:X→β):uw x k=k x:=by cases x<;>rfl
def xB:IntKind→Nat
 | .i8 | .u8=>256
 | .i16 | .u16=>65536
 | .i32 | .u32=>4294967296
 | .i64 | .u64=>18446744073709551616
def BF:IntKind→Nat
 | .i8 | .u8=>128
 | .i16 | .u16=>32768
 | .i32 | .u32=>2147483648
 | .i64 | .u64=>9223372036854775808
theorem OY (k:IntKind):(xB k:Int)=2^k.bits:=by cases k<;>decide
theorem acI (k:IntKind):xB k=2^k.bits:=by cases k<;>decide
theorem acJ (k:IntKind):(BF k:Int)=2^(k.bits-1):=by cases k<;>decide
theorem Uq (k:IntKind):0<xB k:=by cases k<;>decide
def tX (k:IntKind) (n:Int):Nat:=match n with
 | .ofNat m=>m%xB k
 | .negSucc m=>xB k-1-m%xB k
theorem OZ (k:IntKind) (n:Int):(tX k n:Int)=n%2^k.bits:=by
 rw[← OY]
 have:=Uq k
 cases n with
 | ofNat m=>simp[tX]
 | negSucc m =>
  have h:=Nat.mod_lt m this
  simp only[tX]
  rw[Int.negSucc_emod _ (by omega)]
  have h2:((m:Int)%(xB k:Int))=((m%xB k:Nat):Int):=by simp
  omega
theorem CQ (k:IntKind) (n:Int):(BitVec.ofInt k.bits n).toNat=tX k n:=by
 rw[BitVec.toNat_ofInt]
 have:=OZ k n
 have h2:((2^k.bits:Nat):Int)=2^k.bits:=by simp
 rw[h2,← this];simp
def Ur (k:IntKind) (r:Nat):Int:=match k.signed with
 | true=>match Nat.ble (BF k) r with|true=>Int.subNatNat r (xB k)|false=>.ofNat r
 | false=>.ofNat r
def uH (k:IntKind) (n:Int):Int:=Ur k (tX k n)
theorem uh (k:IntKind) (n:Int):uH k n=k.wrap n:=by
 unfold uH Ur IntKind.wrap
 have h:=OZ k n
 rw[← OY,← acJ] at *
 rw[← h]
 cases hs:k.signed with
 | false=>simp
 | true =>
  simp only[Bool.true_and]
  cases hb:Nat.ble (BF k) (tX k n) with
  | true =>
   have:BF k≤tX k n:=Nat.le_of_ble_eq_true hb
   rw[if_pos (by simp;omega),Int.subNatNat_eq_coe]
  | false =>
   have:¬ BF k≤tX k n:=fun e=>by rw[Nat.ble_eq_true_of_le e] at hb;cases hb
   rw[if_neg (by simp;omega)];rfl
def F9 (n:Nat) (k:IntKind):Nat:=match Nat.ble n k.bits with|true=>n|false=>k.bits
theorem O0 (n:Nat) (k:IntKind):F9 n k=min n k.bits:=by
 unfold F9
 cases h:Nat.ble n k.bits with
 | true=>have:=Nat.le_of_ble_eq_true h;simp;omega
 | false =>
  have:¬ n≤k.bits:=fun e=>by rw[Nat.ble_eq_true_of_le e] at h;cases h
  simp;omega
def uy:Int→Int→Bool
 | .ofNat m,.ofNat n=>Nat.beq m n
 | .negSucc m,.negSucc n=>Nat.beq m n
 | _,_=>false
def wh:Int→Int→Bool
 | .ofNat m,.ofNat n=>Nat.blt m n
 | .negSucc m,.negSucc n=>Nat.blt n m
 | .negSucc _,.ofNat _=>true
 | .ofNat _,.negSucc _=>false
theorem DZ (a b:Int):uy a b=(a==b):=by
 cases a with
 | ofNat m=>cases b with
  | ofNat n =>
   simp only[uy]
   rw[Bool.eq_iff_iff,Nat.beq_eq,beq_iff_eq]
   exact⟨fun h=>by rw[h],fun h=>Int.ofNat.inj h⟩
  | negSucc n=>simp only[uy];rw[eq_comm,beq_eq_false_iff_ne];intro h;cases h
 | negSucc m=>cases b with
  | ofNat n=>simp only[uy];rw[eq_comm,beq_eq_false_iff_ne];intro h;cases h
  | negSucc n =>
   simp only[uy]
   rw[Bool.eq_iff_iff,Nat.beq_eq,beq_iff_eq]
   omega
theorem yM (a b:Int):wh a b=decide (a<b):=by
 cases a<;>cases b<;>simp only[wh]<;>rw[Bool.eq_iff_iff]<;>simp[Nat.blt_eq]<;>omega
def zC (b:Bool):Bool:=match b with|true=>false|false=>true
theorem yN (b:Bool):zC b = !b:=by cases b<;>rfl
def fold (op:BinOp) (k:IntKind) (a b:Int):Int:=match op with
 | .shl=>match a,b with
  | .ofNat m,.ofNat n=>uH k (.ofNat (Nat.shiftLeft m (F9 n k)))
  | a,b=>rM .shl k a b
 | .shr=>match a,b with
  | .ofNat m,.ofNat n=>.ofNat (Nat.shiftRight m (F9 n k))
  | a,b=>rM .shr k a b
 | .add=>uH k (Int.add a b)
 | .sub=>uH k (Int.sub a b)
 | .mul=>uH k (Int.mul a b)
 | .quo=>uH k (Int.tdiv a b)
 | .rem=>Int.tmod a b
 | .and=>uH k (.ofNat (Nat.land (tX k a) (tX k b)))
 | .or=>uH k (.ofNat (Nat.lor (tX k a) (tX k b)))
 | .xor=>uH k (.ofNat (Nat.xor (tX k a) (tX k b)))
 | .andNot=>uH k (.ofNat (Nat.land (tX k a) (xB k-1-tX k b)))
 | .eql=>rX (uy a b)
 | .neq=>rX (zC (uy a b))
 | .lss=>rX (wh a b)
 | .leq=>rX (zC (wh b a))
 | .gtr=>rX (wh b a)
 | .geq=>rX (zC (wh a b))
theorem Ea (op:BinOp) (k:IntKind) (a b:Int):fold op k a b=rM op k a b:=by
 cases op
 case shl =>
  simp only[fold]
  split
  ·rename_i m n
   rw[uh,O0]
   show k.wrap (Int.ofNat (m <<< _))=k.wrap (Int.ofNat m*2^min n k.bits)
   rw[Nat.shiftLeft_eq];congr 1
  ·rfl
 case shr =>
  simp only[fold]
  split
  ·rename_i m n
   rw[O0]
   show Int.ofNat (m >>> _)=(Int.ofNat m).fdiv (2^min n k.bits)
   rw[Nat.shiftRight_eq_div_pow,Int.fdiv_eq_ediv_of_nonneg _ (Int.pow_nonneg (by decide))];simp
  ·rfl
 case add=>exact uh _ _
 case sub=>exact uh _ _
 case mul=>exact uh _ _
 case quo=>exact uh _ _
 case rem=>rfl
 case and=>simp only[fold,rM,zh];rw[uh,BitVec.toNat_and,CQ,CQ];rfl
 case or=>simp only[fold,rM,zh];rw[uh,BitVec.toNat_or,CQ,CQ];rfl
 case xor=>simp only[fold,rM,zh];rw[uh,BitVec.toNat_xor,CQ,CQ];rfl
 case andNot=>simp only[fold,rM,zh];rw[uh,BitVec.toNat_and,BitVec.toNat_not,CQ,CQ,← acI];rfl
 case eql=>simp only[fold,rM,DZ]
 case neq=>simp only[fold,rM,DZ,yN,bne]
 case lss=>simp only[fold,rM,yM]
 case leq=>simp only[fold,rM,yM,yN];congr 1;rw[Bool.eq_iff_iff];simp
 case gtr=>simp only[fold,rM,yM,gt_iff_lt]
 case geq=>simp only[fold,rM,yM,yN];congr 1;rw[Bool.eq_iff_iff];simp
def O1:IntKind→IntKind→Bool
 | .u8,.u8=>true | .u8,.u16=>true | .u8,.u32=>true | .u8,.u64=>true | .u8,.i16=>true | .u8,.i32=>true | .u8,.i64=>true
 | .u16,.u16=>true | .u16,.u32=>true | .u16,.u64=>true | .u16,.i32=>true | .u16,.i64=>true
 | .u32,.u32=>true | .u32,.u64=>true | .u32,.i64=>true
 | .u64,.u64=>true
 | .i8,.i8=>true | .i8,.i16=>true | .i8,.i32=>true | .i8,.i64=>true
 | .i16,.i16=>true | .i16,.i32=>true | .i16,.i64=>true
 | .i32,.i32=>true | .i32,.i64=>true
 | .i64,.i64=>true
 | _,_=>false
theorem Us {a b:IntKind} (h:O1 a b=true) (n:Int):b.wrap (a.wrap n)=a.wrap n:=by
 unfold IntKind.wrap IntKind.bits IntKind.signed
 cases a<;>cases b<;>first|(cases h;done)|(simp<;>(try split)<;>(try split)<;>omega)
def uo (op:BinOp) (k:IntKind) (a b:X):X:=match a,b with
 | .lit x,.lit y=>DW (fold op k x y) .lit
 | a,b=>.bin op k a b
theorem CS (s:ry) (op:BinOp) (k:IntKind) (a b:X):(uo op k a b).den s=rM op k (a.den s) (b.den s):=by
 unfold uo;split
 ·rw[DX,X.den,Ea];rfl
 ·rfl
def O3 (k:IntKind) (a:X):X:=match a with
 | .lit x=>DW (uH k x) .lit
 | .var (.int k') i=>match O1 k' k with|true=>.var (.int k') i|false=>.conv k (.var (.int k') i)
 | a=>.conv k a
theorem acK (s:ry) (k:IntKind) (a:X):(O3 k a).den s=k.wrap (a.den s):=by
 unfold O3;split
 ·rw[DX,X.den,uh];rfl
 ·split
  ·rename_i h;exact(Us h _).symm
  ·rfl
 ·rfl
def LX (k:IntKind) (a:X):X:=match a with
 | .lit x=>DW (fold .xor k (match k.signed with|true => -1|false=>.ofNat (xB k-1)) x) .lit
 | a=>.com k a
theorem Ut (s:ry) (k:IntKind) (a:X):(LX k a).den s=JD k (a.den s):=by
 unfold LX;split
 ·rw[DX,X.den,Ea]
  unfold JD rM IntKind.max
  cases hs:k.signed with
  | true=>simp[X.den]
  | false =>
   simp only[Bool.false_eq_true,if_false,X.den]
   have h1:=OY k
   have h2:=Uq k
   congr 1
   rw[← h1];simp;omega
 ·rfl
def sJ (n:Int):Bool:=match n with | .ofNat 0=>false|_=>true
theorem uI (n:Int):sJ n=(n != 0):=by
 unfold sJ;split
 ·rfl
 ·rename_i h;rw[eq_comm,bne_iff_ne];intro e;exact h (by rw[e];rfl)
def mkNot (a:X):X:=match a with
 | .lit x=>.lit (rX (zC (sJ x)))
 | a=>.not a
theorem O4 (s:ry) (a:X):(mkNot a).den s=rX (!(a.den s != 0)):=by
 unfold mkNot;split
 ·rw[X.den,yN,uI];rfl
 ·rfl
def mkAnd (a b:X):X:=match a with
 | .lit x=>match sJ x with
  | true=>match b with
   | .lit y=>.lit (rX (sJ y))
   | b=>.and a b
  | false=>.lit 0
 | a=>.and a b
theorem acL (s:ry) (a b:X):(mkAnd a b).den s=rX (a.den s != 0&&b.den s != 0):=by
 unfold mkAnd;split
 ·rename_i x
  split
  ·rename_i hx
   rw[uI] at hx
   split
   ·rw[X.den,X.den,X.den,hx,uI];rfl
   ·rfl
  ·rename_i hx
   rw[uI] at hx
   simp only[X.den]
   rw[hx];rfl
 ·rfl
def LY (a b:X):X:=match a,b with
 | .lit x,.lit y=>.lit (rX (match sJ x with|true=>sJ y|false=>zC (sJ y)))
 | a,b=>.beq a b
theorem Uu (s:ry) (a b:X):(LY a b).den s=rX ((a.den s != 0)==(b.den s != 0)):=by
 unfold LY;split
 ·rename_i x y
  simp only[X.den,uI,yN]
  cases hx:(x != 0)<;>cases hy:(y != 0)<;>rfl
 ·rfl
def O5 (a b:X):X:=match a,b with
 | .lit x,.lit y=>match wh y x with|true=>.lit y|false=>.lit x
 | a,b=>.min a b
theorem acM (s:ry) (a b:X):(O5 a b).den s=if b.den s<a.den s then b.den s else a.den s:=by
 unfold O5;split
 ·rename_i x y
  show _=if y<x then y else x
  rw[yM]
  by_cases h:y<x
  ·rw[if_pos h,decide_eq_true h];rfl
  ·rw[if_neg h,decide_eq_false h];rfl
 ·rfl
def LZ (a b:X):X:=match a,b with
 | .lit x,.lit y=>match wh x y with|true=>.lit y|false=>.lit x
 | a,b=>.max a b
theorem Uv (s:ry) (a b:X):(LZ a b).den s=if b.den s>a.den s then b.den s else a.den s:=by
 unfold LZ;split
 ·rename_i x y
  show _=if x<y then y else x
  rw[yM]
  by_cases h:x<y
  ·rw[if_pos h,decide_eq_true h];rfl
  ·rw[if_neg h,decide_eq_false h];rfl
 ·rfl
def Eb (c a b:X):X:=match c with
 | .lit n=>match sJ n with|true=>a|false=>b
 | c=>match a,b with
  | .lit x,.lit y=>match uy x y with|true=>.lit x|false=>.ite c (.lit x) (.lit y)
  | a,b=>.ite c a b
theorem JE (s:ry) (c a b:X):(Eb c a b).den s=if c.den s=0 then b.den s else a.den s:=by
 unfold Eb;split
 ·rename_i n
  show _=if n=0 then b.den s else a.den s
  split
  ·rename_i h;rw[uI,bne_iff_ne] at h;rw[if_neg h]
  ·rename_i h;rw[uI,bne_eq_false_iff_eq] at h;rw[if_pos h]
 ·split
  ·rename_i x y
   split
   ·rename_i h
    rw[DZ,beq_iff_eq] at h;subst h
    show x=if _ then x else x
    split<;>rfl
   ·rfl
  ·rfl
def O6 (k:IntKind) (n:Int):Bool:=uy (uH k n) n
def vG:IntKind→IntKind→Bool
 | .i8,.i8=>true | .i16,.i16=>true | .i32,.i32=>true | .i64,.i64=>true
 | .u8,.u8=>true | .u16,.u16=>true | .u32,.u32=>true | .u64,.u64=>true
 | _,_=>false
theorem xk {a b:IntKind} (h:vG a b=true):a=b:=by cases a<;>cases b<;>first|rfl|cases h
def X.inK (k:IntKind):X→Bool
 | .lit n=>O6 k n
 | .var (.int k') _=>O1 k' k
 | .var .bit _=>vG k .u64
 | .bin op k' a b=>match op with
  | .add | .sub | .mul | .quo | .shl | .and | .or | .xor | .andNot=>vG k k'
  | .shr=>X.inK k a
  | .rem=>X.inK k a
  | _=>false
 | .conv k' _=>vG k k'
 | .com k' _=>vG k k'
 | .min a b=>match X.inK k a with|true=>X.inK k b|false=>false
 | .max a b=>match X.inK k a with|true=>X.inK k b|false=>false
 | .ite _ a b=>match X.inK k a with|true=>X.inK k b|false=>false
 | _=>false
theorem wrap_wrap (k:IntKind) (n:Int):k.wrap (k.wrap n)=k.wrap n:=by
 unfold IntKind.wrap IntKind.bits IntKind.signed
 cases k<;>simp<;>(try split)<;>(try split)<;>omega
theorem acN (k:IntKind) (n:Int) (m:Nat) (h:k.wrap n=n):k.wrap (n.fdiv (2^m))=n.fdiv (2^m):=by
 rw[Int.fdiv_eq_ediv_of_nonneg _ (Int.pow_nonneg (by decide))]
 have hp:(0:Int)<2^m:=Int.pow_pos (by decide)
 generalize (2:Int)^m=p at hp
 have h1:0≤n→0≤n/p∧n/p≤n:=fun hn=>⟨Int.ediv_nonneg hn (by omega),Int.ediv_le_self _ hn⟩
 have h2:n<0→n≤n/p∧n/p<0:=fun hn=>⟨by
  have h3:=Int.mul_ediv_add_emod n p
  have h4:=Int.emod_nonneg n (show p≠0 by omega)
  have h5:=Int.emod_lt_of_pos n hp
  have:n/p<0:=Int.ediv_neg_of_neg_of_pos hn hp
  have:p*(n/p)≤1*(n/p):=Int.mul_le_mul_of_nonpos_right (by omega) (by omega)
  apply Int.le_of_lt_add_one
  have h6:n<p*(n/p)+p:=by omega
  have h7:p*(n/p)+p≤(n/p)+1:=by
   have:p*(n/p+1)≤1*(n/p+1):=Int.mul_le_mul_of_nonpos_right (by omega) (by omega)
   rw[Int.mul_add,Int.mul_one] at this;omega
  omega,Int.ediv_neg_of_neg_of_pos hn hp⟩
 unfold IntKind.wrap IntKind.bits IntKind.signed at *
 cases k<;>simp at h ⊢ <;> (rcases Int.lt_or_le n 0 with hn|hn)<;>first
  | (have:=h2 hn;split at h<;>(try split)<;>omega)
  | (have:=h1 hn;split at h<;>(try split)<;>omega)
  | (have:=h2 hn;omega)
  | (have:=h1 hn;omega)
theorem acO (k:IntKind) (n m:Int) (h:k.wrap n=n):k.wrap (n.tmod m)=n.tmod m:=by
 have h1:0≤n→0≤n.tmod m∧n.tmod m≤n:=fun hn=>by
  obtain⟨a,rfl⟩:=Int.eq_ofNat_of_zero_le hn
  have:(a:Int).tmod m=((a%m.natAbs:Nat):Int):=by
   rcases Int.natAbs_eq m with e|e
   ·rw[e];simp only[Int.natAbs_natCast];rfl
   ·rw[e];simp only[Int.natAbs_neg,Int.natAbs_natCast,Int.tmod_neg];rfl
  rw[this]
  have:=Nat.mod_le a m.natAbs
  omega
 have h2:n<0→n≤n.tmod m∧n.tmod m≤0:=fun hn=>by
  obtain⟨a,ha⟩:=Int.eq_ofNat_of_zero_le (show 0 ≤ -n by omega)
  have hn2:n = -(a:Int):=by omega
  rw[hn2,Int.neg_tmod]
  have:(a:Int).tmod m=((a%m.natAbs:Nat):Int):=by
   rcases Int.natAbs_eq m with e|e
   ·rw[e];simp only[Int.natAbs_natCast];rfl
   ·rw[e];simp only[Int.natAbs_neg,Int.natAbs_natCast,Int.tmod_neg];rfl
  rw[this]
  have:=Nat.mod_le a m.natAbs
  omega
 generalize n.tmod m=r at *
 unfold IntKind.wrap IntKind.bits IntKind.signed at *
 cases k<;>simp at h ⊢ <;> (rcases Int.lt_or_le n 0 with hn|hn)<;>first
  | (have:=h2 hn;split at h<;>(try split)<;>omega)
  | (have:=h1 hn;split at h<;>(try split)<;>omega)
  | (have:=h2 hn;omega)
  | (have:=h1 hn;omega)
theorem X.inK_ok {k:IntKind} (s:ry):∀ {x:X},x.inK k=true→k.wrap (x.den s)=x.den s
 | .lit n,h=>by
  have h':O6 k n=true:=h
  unfold O6 at h'
  rw[DZ,uh,beq_iff_eq] at h';exact h'
 | .var (.int k') i,h=>Us h _
 | .var .bool i,h=>by cases h
 | .var .nat i,h=>by cases h
 | .dlen a,h=>by cases h
 | .var .bit i,h=>by
  have:=xk (show vG k .u64=true from h);subst this
  simp only[X.den,VK.norm];cases (s i != 0)<;>rfl
 | .bin op k' a b,h=>by
  cases op<;>simp only[X.inK] at h<;>first
   | cases h
   | (have:=xk h;subst this;simp only[X.den,rM,zh];exact wrap_wrap _ _)
   | (simp only[X.den,rM];exact acN _ _ _ (X.inK_ok s h))
   | (simp only[X.den,rM];exact acO _ _ _ (X.inK_ok s h))
 | .conv k' a,h=>by have:=xk h;subst this;exact wrap_wrap _ _
 | .com k' a,h=>by have:=xk h;subst this;exact wrap_wrap _ _
 | .not a,h=>by cases h
 | .and a b,h=>by cases h
 | .beq a b,h=>by cases h
 | .min a b,h=>by
  simp only[X.inK] at h
  split at h
  ·rename_i h1
   simp only[X.den];split
   ·exact X.inK_ok s h
   ·exact X.inK_ok s h1
  ·cases h
 | .max a b,h=>by
  simp only[X.inK] at h
  split at h
  ·rename_i h1
   simp only[X.den];split
   ·exact X.inK_ok s h
   ·exact X.inK_ok s h1
  ·cases h
 | .ite c a b,h=>by
  simp only[X.inK] at h
  split at h
  ·rename_i h1
   simp only[X.den];split
   ·exact X.inK_ok s h
   ·exact X.inK_ok s h1
  ·cases h
def X.isBit:X→Bool
 | .lit n=>match uy n (.ofNat 0) with|true=>true|false=>uy n (.ofNat 1)
 | .var .bit _=>true
 | .ite _ a b=>match X.isBit a with|true=>X.isBit b|false=>false
 | _=>false
theorem X.isBit_ok (s:ry):∀ {x:X},x.isBit=true→x.den s=rX (x.den s != 0)
 | .lit n,h=>by
  simp only[X.isBit,DZ] at h
  split at h
  ·rename_i h1;rw[beq_iff_eq] at h1;subst h1;rfl
  ·rw[beq_iff_eq] at h;subst h;rfl
 | .var .bit i,_=>by simp only[X.den,VK.norm];cases (s i != 0)<;>rfl
 | .var (.int _) i,h=>by simp[X.isBit] at h
 | .var .bool i,h=>by simp[X.isBit] at h
 | .var .nat i,h=>by simp[X.isBit] at h
 | .dlen a,h=>by simp[X.isBit] at h
 | .ite c a b,h=>by
  simp only[X.isBit] at h
  split at h
  ·rename_i h1
   simp only[X.den];split
   ·exact X.isBit_ok s h
   ·exact X.isBit_ok s h1
  ·cases h
 | .bin _ _ _ _,h=>by simp[X.isBit] at h
 | .conv _ _,h=>by simp[X.isBit] at h
 | .com _ _,h=>by simp[X.isBit] at h
 | .not _,h=>by simp[X.isBit] at h
 | .and _ _,h=>by simp[X.isBit] at h
 | .beq _ _,h=>by simp[X.isBit] at h
 | .min _ _,h=>by simp[X.isBit] at h
 | .max _ _,h=>by simp[X.isBit] at h
inductive qZ (α:Type) where
 | leaf (a:α)
 | ite (c:X) (a b:qZ α)
 | call (f:Nat) (args:List X) (base n:Nat) (t:qZ α)
 | stuck (why:String)
abbrev uD:=Nat→List Int→List Int
def vH (s:ry) (base:Nat):Nat→List Int
 | 0=>[]
 | n+1=>s base::vH s (base+1) n
theorem BG (s:ry):∀ (n b:Nat),(vH s b n).length=n
 | 0,_=>rfl
 | n+1,b=>by rw[vH,List.length_cons,BG s n]
def Ec (Φ:uD) (s:ry) (f:Nat) (args:List X) (base n:Nat):Prop:=vH s base n=Φ f (args.map (X.den s))
instance (Φ:uD) (s:ry) (f:Nat) (args:List X) (base n:Nat):Decidable (Ec Φ s f args base n):=inferInstanceAs (Decidable (_=_))
def qZ.path {α:Type} (Φ:uD) (s:ry):qZ α→Option α
 | .leaf a=>some a
 | .ite c a b=>if c.den s=0 then b.path Φ s else a.path Φ s
 | .call f args base n t=>if Ec Φ s f args base n then t.path Φ s else none
 | .stuck _=>none
def qZ.bind {α β:Type} : qZ α→(α→qZ β)→qZ β
 | .leaf a,f=>f a
 | .ite c a b,f=>.ite c (a.bind f) (b.bind f)
 | .call g args base n t,f=>.call g args base n (t.bind f)
 | .stuck w,_=>.stuck w
theorem qZ.path_bind {α β:Type} (Φ:uD) (s:ry) (f:α→qZ β):∀ t:qZ α,(t.bind f).path Φ s=(t.path Φ s).bind fun a=>(f a).path Φ s
 | .leaf a=>rfl
 | .ite c a b=>by
  simp only[qZ.bind,qZ.path]
  split
  ·exact qZ.path_bind Φ s f b
  ·exact qZ.path_bind Φ s f a
 | .call g args base n t=>by
  simp only[qZ.bind,qZ.path]
  split
  ·exact qZ.path_bind Φ s f t
  ·rfl
 | .stuck w=>rfl
theorem qZ.path_bind_some {α β:Type} {Φ:uD} {s:ry} {f:α→qZ β} {t:qZ α} {b:β} (h:(t.bind f).path Φ s=some b):∃ a,t.path Φ s=some a∧(f a).path Φ s=some b:=by
 rw[qZ.path_bind] at h
 cases ht:t.path Φ s with
 | none=>rw[ht] at h;cases h
 | some a=>rw[ht] at h;exact⟨a,rfl,h⟩
def Ga {α:Type} (c:X) (a b:qZ α):qZ α:=match c with
 | .lit n=>match sJ n with|true=>a|false=>b
 | c=>.ite c a b
theorem O7 {α:Type} (Φ:uD) (s:ry) (c:X) (a b:qZ α):(Ga c a b).path Φ s=if c.den s=0 then b.path Φ s else a.path Φ s:=by
 unfold Ga;split
 ·rename_i n
  show _=if n=0 then b.path Φ s else a.path Φ s
  split
  ·rename_i h;rw[uI,bne_iff_ne] at h;rw[if_neg h]
  ·rename_i h;rw[uI,bne_eq_false_iff_eq] at h;rw[if_pos h]
 ·rfl
open Go.RowKit
theorem sN {a b:Nat} : Nat.beq a b=true↔a=b:=by rw[Nat.beq_eq]
def O8:VK→VK→Bool
 | .int k,.int k'=>vG k k'
 | .bool,.bool=>true
 | .bit,.bit=>true
 | .nat,.nat=>true
 | _,_=>false
def JF:BinOp→Nat
 | .add=>0 | .sub=>1 | .mul=>2 | .quo=>3 | .rem=>4 | .and=>5 | .or=>6 | .xor=>7 | .shl=>8 | .shr=>9 | .andNot=>10
 | .eql=>11 | .neq=>12 | .lss=>13 | .leq=>14 | .gtr=>15 | .geq=>16
def sO (a:Bool) (b:Bool):Bool:=match a with|true=>b|false=>false
def vC:X→X→Bool
 | .lit m,.lit n=>uy m n
 | .var k i,.var k' j=>sO (Nat.beq i j) (O8 k k')
 | .bin o k a b,.bin o' k' a' b'=>sO (Nat.beq (JF o) (JF o')) (sO (vG k k') (sO (vC a a') (vC b b')))
 | .conv k a,.conv k' a'=>sO (vG k k') (vC a a')
 | .com k a,.com k' a'=>sO (vG k k') (vC a a')
 | .not a,.not a'=>vC a a'
 | .and a b,.and a' b'=>sO (vC a a') (vC b b')
 | .beq a b,.beq a' b'=>sO (vC a a') (vC b b')
 | .min a b,.min a' b'=>sO (vC a a') (vC b b')
 | .max a b,.max a' b'=>sO (vC a a') (vC b b')
 | .ite c a b,.ite c' a' b'=>sO (vC c c') (sO (vC a a') (vC b b'))
 | .dlen a,.dlen a'=>vC a a'
 | _,_=>false
abbrev Facts:=List (X×Bool)
def CU:Facts→X→Option Bool
 | [],_=>none
 | x::l,c=>match vC x.1 c with|true=>some x.2|false=>CU l c
def Gb (fc:Facts) (c:X) (b:Bool):Facts:=match c with
 | .not a=>(a,zC b)::fc
 | c=>(c,b)::fc
def sQ (s:ry) (fc:Facts):Prop:=∀ x∈fc,(x.1.den s != 0)=x.2
theorem acP {a b:VK} (h:O8 a b=true):a=b:=by
 cases a<;>cases b<;>first|rfl|(simp only[O8] at h;rw[xk h])|cases h
theorem acQ {a b:BinOp} (h:JF a=JF b):a=b:=by cases a<;>cases b<;>first|rfl|(simp[JF] at h)
theorem su {a b:Bool} (h:sO a b=true):a=true∧b=true:=by
 cases a with
 | true=>exact⟨rfl,h⟩
 | false=>cases h
theorem wm:∀ {a b:X},vC a b=true→a=b
 | .lit m,.lit n,h=>by simp only[vC,DZ,beq_iff_eq] at h;rw[h]
 | .var k i,.var k' j,h=>by have h:=su h;rw[sN.1 h.1,acP h.2]
 | .bin o k a b,.bin o' k' a' b',h=>by
  have h:=su h;have h2:=su h.2;have h3:=su h2.2
  rw[acQ (sN.1 h.1),xk h2.1,wm h3.1,wm h3.2]
 | .conv k a,.conv k' a',h=>by have h:=su h;rw[xk h.1,wm h.2]
 | .com k a,.com k' a',h=>by have h:=su h;rw[xk h.1,wm h.2]
 | .not a,.not a',h=>by rw[wm (a:=a) (b:=a') h]
 | .and a b,.and a' b',h=>by have h:=su h;rw[wm h.1,wm h.2]
 | .beq a b,.beq a' b',h=>by have h:=su h;rw[wm h.1,wm h.2]
 | .min a b,.min a' b',h=>by have h:=su h;rw[wm h.1,wm h.2]
 | .max a b,.max a' b',h=>by have h:=su h;rw[wm h.1,wm h.2]
 | .ite c a b,.ite c' a' b',h=>by have h:=su h;have h2:=su h.2;rw[wm h.1,wm h2.1,wm h2.2]
 | .dlen a,.dlen a',h=>by rw[wm (a:=a) (b:=a') h]
theorem zD {s:ry} : ∀ {fc:Facts} {c:X} {b:Bool},sQ s fc→CU fc c=some b→(c.den s != 0)=b
 | [],c,b,_,h=>by cases h
 | x::l,c,b,hf,h=>by
  simp only[CU] at h
  split at h
  ·rename_i he
   cases h
   rw[← wm he];exact hf x List.mem_cons_self
  ·exact zD (fun y hy=>hf y (List.mem_cons_of_mem _ hy)) h
theorem O9 {s:ry} {fc:Facts} {c:X} {b:Bool} (hf:sQ s fc) (h:(c.den s != 0)=b):sQ s (Gb fc c b):=by
 unfold Gb
 split
 ·rename_i a
  rw[X.den,ut] at h
  intro x hx
  rcases List.mem_cons.1 hx with rfl|hx
  ·simp only[yN,← h,Bool.not_not]
  ·exact hf x hx
 ·intro x hx
  rcases List.mem_cons.1 hx with rfl|hx
  ·exact h
  ·exact hf x hx
abbrev xC:=Int×Int
def xD:IntKind→Int
 | .i8 => -128 | .i16 => -32768 | .i32 => -2147483648 | .i64 => -9223372036854775808|_=>0
def xG:IntKind→Int
 | .i8=>127 | .i16=>32767 | .i32=>2147483647 | .i64=>9223372036854775807
 | .u8=>255 | .u16=>65535 | .u32=>4294967295 | .u64=>18446744073709551615
theorem AP (k:IntKind) (n:Int):xD k≤k.wrap n∧k.wrap n≤xG k:=by
 unfold IntKind.wrap IntKind.bits IntKind.signed xD xG
 cases k<;>simp<;>(try split)<;>(constructor<;>omega)
def zF (a b:Int):Bool:=zC (wh b a)
theorem Gc {a b:Int} (h:zF a b=true):a≤b:=by
 unfold zF at h;rw[yN,yM] at h;simpa using h
theorem Pb {a b:Int} (h:wh a b=true):a<b:=by rw[yM] at h;simpa using h
theorem CV {a b:Int} (h:uy a b=true):a=b:=by rw[DZ] at h;simpa using h
def zG (a b:Int):Int:=match zF a b with|true=>a|false=>b
def zH (a b:Int):Int:=match zF a b with|true=>b|false=>a
theorem Pf {a b n:Int} (h1:n≤a) (h2:n≤b):n≤zG a b:=by unfold zG;split<;>assumption
theorem Pg {a b n:Int} (h1:a≤n) (h2:b≤n):zH a b≤n:=by unfold zH;split<;>assumption
theorem Uw (a b:Int):zG a b≤a∧zG a b≤b:=by
 unfold zG;split
 ·rename_i h;exact⟨Int.le_refl _,Gc h⟩
 ·rename_i h;unfold zF at h;rw[yN,yM] at h;simp at h;omega
theorem Ux (a b:Int):a≤zH a b∧b≤zH a b:=by
 unfold zH;split
 ·rename_i h;exact⟨Gc h,Int.le_refl _⟩
 ·rename_i h;unfold zF at h;rw[yN,yM] at h;simp at h;omega
def wN (r:xC) (n:Int):Prop:=r.1≤n∧n≤r.2
def JG (k:IntKind) (lo hi:Int):xC:=match sO (zF (xD k) lo) (zF hi (xG k)) with|true=>(lo,hi)|false=>(xD k,xG k)
theorem L6 {k:IntKind} {n:Int} (h1:xD k≤n) (h2:n≤xG k):k.wrap n=n:=by
 unfold IntKind.wrap IntKind.bits IntKind.signed xD xG at *
 cases k<;>simp at h1 h2 ⊢ <;> (try split)<;>omega
theorem Ph {k:IntKind} {lo hi n:Int} (h:wN (lo,hi) n):wN (JG k lo hi) (k.wrap n):=by
 unfold JG
 split
 ·rename_i he
  have he:=su he
  have h1:=Gc he.1;have h2:=Gc he.2
  rw[L6 (Int.le_trans h1 h.1) (Int.le_trans h.2 h2)];exact h
 ·exact AP k n
def Pi (op:BinOp) (c:Int) (b:Bool) (r:xC):xC:=match op,b with
 | .lss,true=>(r.1,zG r.2 (c-1))
 | .lss,false=>(zH r.1 c,r.2)
 | .leq,true=>(r.1,zG r.2 c)
 | .leq,false=>(zH r.1 (c+1),r.2)
 | .gtr,true=>(zH r.1 (c+1),r.2)
 | .gtr,false=>(r.1,zG r.2 c)
 | .geq,true=>(zH r.1 c,r.2)
 | .geq,false=>(r.1,zG r.2 (c-1))
 | .eql,true=>(c,c)
 | .neq,false=>(c,c)
 | .eql,false=>(match uy r.1 c with|true=>c+1|false=>r.1,match uy r.2 c with|true=>c-1|false=>r.2)
 | .neq,true=>(match uy r.1 c with|true=>c+1|false=>r.1,match uy r.2 c with|true=>c-1|false=>r.2)
 | _,_=>r
theorem acR {op:BinOp} {k:IntKind} {c n:Int} {b:Bool} {r:xC} (h:wN r n) (hf:(rM op k n c != 0)=b):wN (Pi op c b r) n:=by
 have ne:n≠c→wN (match uy r.1 c with|true=>c+1|false=>r.1,match uy r.2 c with|true=>c-1|false=>r.2) n:=fun hn=>by
  obtain⟨h1,h2⟩:=h
  constructor
  ·simp only;split
   ·rename_i he;have:=CV he;omega
   ·exact h1
  ·simp only;split
   ·rename_i he;have:=CV he;omega
   ·exact h2
 cases op<;>simp only[rM,ut] at hf<;>cases b<;>simp only[Pi]<;>first
  | exact h
  | (simp at hf;exact ne hf)
  | (simp at hf;subst hf;exact⟨Int.le_refl _,Int.le_refl _⟩)
  | (simp at hf;exact⟨h.1,Pf h.2 (by omega)⟩)
  | (simp at hf;exact⟨Pg h.1 (by omega),h.2⟩)
def Pj (x:X) (f:X×Bool) (r:xC):xC:=match f.1 with
 | .bin op _ a (.lit c)=>match vC a x with|true=>Pi op c f.2 r|false=>r
 | _=>r
def Gd (x:X):Facts→xC→xC
 | [],r=>r
 | f::fc,r=>Pj x f (Gd x fc r)
theorem Pk {s:ry} {x:X} : ∀ {fc:Facts} {r:xC},sQ s fc→wN r (x.den s)→wN (Gd x fc r) (x.den s)
 | [],r,_,h=>h
 | f::fc,r,hf,h=>by
  have ih:wN (Gd x fc r) (x.den s):=Pk (fun y hy=>hf y (List.mem_cons_of_mem _ hy)) h
  show wN (Pj x f (Gd x fc r)) _
  unfold Pj
  split
  ·rename_i op k a c hc
   split
   ·rename_i he
    have:=wm he;subst this
    have hf0:=hf f List.mem_cons_self
    rw[hc] at hf0
    exact acR ih hf0
   ·exact ih
  ·exact ih
def xS (x:X) (fc:Facts) (r:xC):xC:=Gd x fc (Gd x fc r)
theorem yC {s:ry} {x:X} {fc:Facts} {r:xC} (hf:sQ s fc) (h:wN r (x.den s)):wN (xS x fc r) (x.den s):=Pk hf (Pk hf h)
def wo (fc:Facts):X→Option xC
 | .lit n=>some (n,n)
 | .var k i=>match k with
  | .int k=>some (xS (.var (.int k) i) fc (xD k,xG k))
  | .nat=>none
  | _=>some (xS (.var k i) fc (.ofNat 0,.ofNat 1))
 | .bin op k a b=>match op with
  | .add=>match wo fc a,wo fc b with
   | some x,some y=>some (xS (.bin .add k a b) fc (JG k (x.1+y.1) (x.2+y.2)))
   | _,_=>some (xS (.bin .add k a b) fc (xD k,xG k))
  | .sub=>match wo fc a,wo fc b with
   | some x,some y=>some (xS (.bin .sub k a b) fc (JG k (x.1-y.2) (x.2-y.1)))
   | _,_=>some (xS (.bin .sub k a b) fc (xD k,xG k))
  | .mul | .quo | .shl | .or | .xor | .andNot=>some (xS (.bin op k a b) fc (xD k,xG k))
  | .and=>match b with
   | .lit (.ofNat n)=>match wh (.ofNat n) (.ofNat (BF k)) with
    | true=>some (xS (.bin .and k a (.lit (.ofNat n))) fc (.ofNat 0,.ofNat n))
    | false=>some (xS (.bin .and k a (.lit (.ofNat n))) fc (xD k,xG k))
   | b=>some (xS (.bin .and k a b) fc (xD k,xG k))
  | .shr=>match wo fc a,b with
   | some x,.lit (.ofNat n)=>some (xS (.bin .shr k a (.lit (.ofNat n))) fc (x.1.fdiv (2^F9 n k),x.2.fdiv (2^F9 n k)))
   | _,_=>none
  | .rem=>none
  | _=>some (.ofNat 0,.ofNat 1)
 | .conv k a=>match wo fc a with
  | some x=>some (xS (.conv k a) fc (JG k x.1 x.2))
  | none=>some (xS (.conv k a) fc (xD k,xG k))
 | .com k _=>some (xD k,xG k)
 | .not _=>some (.ofNat 0,.ofNat 1)
 | .and _ _=>some (.ofNat 0,.ofNat 1)
 | .beq _ _=>some (.ofNat 0,.ofNat 1)
 | .min a b=>match wo fc a,wo fc b with
  | some x,some y=>some (xS (.min a b) fc (zG x.1 y.1,zG x.2 y.2))
  | _,_=>none
 | .max a b=>match wo fc a,wo fc b with
  | some x,some y=>some (xS (.max a b) fc (zH x.1 y.1,zH x.2 y.2))
  | _,_=>none
 | .ite _ a b=>match wo fc a,wo fc b with
  | some x,some y=>some (zG x.1 y.1,zH x.2 y.2)
  | _,_=>none
 | .dlen _=>none
theorem Gf (b:Bool):wN (.ofNat 0,.ofNat 1) (rX b):=by cases b<;>exact⟨by decide,by decide⟩
theorem acS {k:IntKind} {a:Int} {n:Nat} (h:n<BF k):wN (.ofNat 0,.ofNat n) (zh .and k a (.ofNat n)):=by
 have h0:fold .and k a (.ofNat n)=zh .and k a (.ofNat n):=Ea .and k a (.ofNat n)
 rw[← h0]
 simp only[fold,uh]
 have hm:Nat.land (tX k a) (tX k (.ofNat n))≤n:=by
  refine Nat.le_trans (Nat.and_le_right (n:=tX k a) (m:=tX k (.ofNat n))) ?_
  exact Nat.mod_le _ _
 have hk:(BF k:Int)≤xG k+1:=by unfold xG BF;cases k<;>decide
 have hl:xD k≤0:=by unfold xD;cases k<;>decide
 rw[L6 (by have:(0:Int)≤Int.ofNat (Nat.land (tX k a) (tX k (.ofNat n))):=Int.natCast_nonneg _;omega) (by
  have:Int.ofNat (Nat.land (tX k a) (tX k (.ofNat n)))≤(n:Int):=Int.ofNat_le.2 hm
  omega)]
 exact⟨Int.natCast_nonneg _,Int.ofNat_le.2 hm⟩
theorem Uy {a b:Int} (m:Nat) (h:a≤b):a.fdiv (2^m)≤b.fdiv (2^m):=by
 rw[Int.fdiv_eq_ediv_of_nonneg _ (Int.pow_nonneg (by decide)),Int.fdiv_eq_ediv_of_nonneg _ (Int.pow_nonneg (by decide))]
 exact Int.ediv_le_ediv (Int.pow_pos (by decide)) h
theorem yO {s:ry} {fc:Facts} (hf:sQ s fc):∀ {x:X} {r:xC},wo fc x=some r→wN r (x.den s)
 | .lit n,r,h=>by cases h;exact⟨Int.le_refl _,Int.le_refl _⟩
 | .var k i,r,h=>by
  simp only[wo] at h
  split at h
  ·cases h;exact yC hf (AP _ _)
  ·cases h
  ·rename_i hk hk2
   cases h
   refine yC hf ?_
   cases k with
   | int k=>exact absurd rfl (hk k)
   | nat=>exact absurd rfl hk2
   | bool=>exact Gf _
   | bit=>exact Gf _
 | .dlen a,r,h=>by cases h
 | .bin op k a b,r,h=>by
  have kr:∀ {op'},op' = .add∨op' = .sub∨op' = .mul∨op' = .quo∨op' = .shl∨op' = .and∨op' = .or∨op' = .xor∨op' = .andNot→wN (xD k,xG k) ((X.bin op' k a b).den s):=by
   rintro op' (rfl|rfl|rfl|rfl|rfl|rfl|rfl|rfl|rfl)<;>exact AP _ _
  cases op<;>simp only[wo] at h
  case add =>
   split at h
   ·rename_i x y hx hy
    cases h
    have h1:=yO hf hx;have h2:=yO hf hy
    exact yC hf (Ph ⟨Int.add_le_add h1.1 h2.1,Int.add_le_add h1.2 h2.2⟩)
   ·cases h;exact yC hf (kr (by simp))
  case sub =>
   split at h
   ·rename_i x y hx hy
    cases h
    have h1:=yO hf hx;have h2:=yO hf hy
    exact yC hf (Ph ⟨Int.sub_le_sub h1.1 h2.2,Int.sub_le_sub h1.2 h2.1⟩)
   ·cases h;exact yC hf (kr (by simp))
  case and =>
   split at h
   ·rename_i n
    split at h
    ·rename_i hn
     cases h
     exact yC hf (acS (by have:=Pb hn;simpa using this))
    ·cases h;exact yC hf (AP _ _)
   ·cases h;exact yC hf (AP _ _)
  case shr =>
   split at h
   ·rename_i x n hx
    cases h
    have h1:=yO hf hx
    refine yC hf ?_
    rw[O0]
    exact⟨Uy _ h1.1,Uy _ h1.2⟩
   ·cases h
  case rem=>cases h
  all_goals first
   | (cases h;exact yC hf (AP _ _))
   | (cases h;exact Gf _)
 | .conv k a,r,h=>by
  simp only[wo] at h
  split at h
  ·rename_i x hx
   cases h
   exact yC hf (Ph (yO hf hx))
  ·cases h;exact yC hf (AP _ _)
 | .com k a,r,h=>by cases h;exact AP _ _
 | .not a,r,h=>by cases h;exact Gf _
 | .and a b,r,h=>by cases h;exact Gf _
 | .beq a b,r,h=>by cases h;exact Gf _
 | .min a b,r,h=>by
  simp only[wo] at h
  split at h
  ·rename_i x y hx hy
   cases h
   have h1:=yO hf hx;have h2:=yO hf hy
   have h3:=Uw x.1 y.1
   refine yC hf ?_
   simp only[X.den]
   split
   ·rename_i hlt;exact⟨Int.le_trans h3.2 h2.1,Pf (Int.le_trans (Int.le_of_lt hlt) h1.2) h2.2⟩
   ·rename_i hlt;exact⟨Int.le_trans h3.1 h1.1,Pf h1.2 (Int.le_trans (Int.not_lt.1 hlt) h2.2)⟩
  ·cases h
 | .max a b,r,h=>by
  simp only[wo] at h
  split at h
  ·rename_i x y hx hy
   cases h
   have h1:=yO hf hx;have h2:=yO hf hy
   have h3:=Ux x.2 y.2
   refine yC hf ?_
   simp only[X.den]
   split
   ·rename_i hlt;exact⟨Pg (Int.le_trans h1.1 (Int.le_of_lt hlt)) h2.1,Int.le_trans h2.2 h3.2⟩
   ·rename_i hlt;exact⟨Pg h1.1 (Int.le_trans h2.1 (Int.not_lt.1 hlt)),Int.le_trans h1.2 h3.1⟩
  ·cases h
 | .ite c a b,r,h=>by
  simp only[wo] at h
  split at h
  ·rename_i x y hx hy
   cases h
   have h1:=yO hf hx;have h2:=yO hf hy
   have h3:=Uw x.1 y.1;have h4:=Ux x.2 y.2
   simp only[X.den]
   split
   ·exact⟨Int.le_trans h3.2 h2.1,Int.le_trans h2.2 h4.2⟩
   ·exact⟨Int.le_trans h3.1 h1.1,Int.le_trans h1.2 h4.1⟩
  ·cases h
def Pm (op:BinOp) (x y:xC):Option Bool:=match op with
 | .lss=>match wh x.2 y.1 with|true=>some true|false=>match zF y.2 x.1 with|true=>some false|false=>none
 | .leq=>match zF x.2 y.1 with|true=>some true|false=>match wh y.2 x.1 with|true=>some false|false=>none
 | .gtr=>match wh y.2 x.1 with|true=>some true|false=>match zF x.2 y.1 with|true=>some false|false=>none
 | .geq=>match zF y.2 x.1 with|true=>some true|false=>match wh x.2 y.1 with|true=>some false|false=>none
 | .eql=>match wh x.2 y.1 with
  | true=>some false
  | false=>match wh y.2 x.1 with
   | true=>some false
   | false=>match sO (uy x.1 x.2) (sO (uy y.1 y.2) (uy x.1 y.1)) with|true=>some true|false=>none
 | .neq=>match wh x.2 y.1 with
  | true=>some true
  | false=>match wh y.2 x.1 with
   | true=>some true
   | false=>match sO (uy x.1 x.2) (sO (uy y.1 y.2) (uy x.1 y.1)) with|true=>some false|false=>none
 | _=>none
theorem acT {op : BinOp} {k : IntKind} {x y : xC} {m n : Int} {b : Bool} (hx : wN x m) (hy : wN y n) (h : Pm op x y = some b) : (rM op k m n != 0) = b := by
  obtain ⟨x1, x2⟩ := hx
  obtain ⟨y1, y2⟩ := hy
  cases op <;> simp only [Pm] at h <;> try cases h
  all_goals
    simp only [rM, ut]
    split at h
    · rename_i he
      first
        | (have := Pb he; cases h; simp; omega)
        | (have := Gc he; cases h; simp; omega)
    · split at h
      · rename_i he
        first
          | (have := Pb he; cases h; simp; omega)
          | (have := Gc he; cases h; simp; omega)
      · first
          | (cases h; done)
          | (split at h
             · rename_i he
               have he := su he; have he2 := su he.2
               have e1 := CV he.1; have e2 := CV he2.1; have e3 := CV he2.2
               cases h; simp; omega
             · cases h)
def xH (fc:Facts):X→Option Bool
 | .lit n=>some (sJ n)
 | .bin op k a b=>match CU fc (.bin op k a b) with
  | some r=>some r
  | none=>match wo fc a,wo fc b with
   | some x,some y=>Pm op x y
   | _,_=>none
 | .not a=>match xH fc a with|some b=>some (zC b)|none=>CU fc (.not a)
 | .and a b=>match xH fc a with
  | some true=>xH fc b
  | some false=>some false
  | none=>match xH fc b with|some false=>some false|_=>CU fc (.and a b)
 | .ite c a b=>match xH fc c with
  | some true=>xH fc a
  | some false=>xH fc b
  | none=>match xH fc a,xH fc b with
   | some true,some true=>some true
   | some false,some false=>some false
   | _,_=>CU fc (.ite c a b)
 | x=>CU fc x
theorem xU {s:ry} {fc:Facts} (hf:sQ s fc):∀ {c:X} {b:Bool},xH fc c=some b→(c.den s != 0)=b
 | .lit n,b,h=>by cases h;rw[uI];rfl
 | .bin op k x y,b,h=>by
  simp only[xH] at h
  split at h
  ·rename_i r hr;cases h;exact zD hf hr
  ·split at h
   ·rename_i p q hp hq
    exact acT (yO hf hp) (yO hf hq) h
   ·cases h
 | .not a,b,h=>by
  simp only[xH] at h
  split at h
  ·rename_i q hq;cases h;rw[X.den,ut,xU hf hq,yN]
  ·exact zD hf h
 | .and x y,b,h=>by
  simp only[xH] at h
  split at h
  ·rename_i hq
   rw[X.den,ut,xU hf hq,xU hf h];rfl
  ·rename_i hq;cases h
   rw[X.den,ut,xU hf hq];rfl
  ·split at h
   ·rename_i hq;cases h
    rw[X.den,ut,xU hf hq,Bool.and_false]
   ·exact zD hf h
 | .ite c x y,b,h=>by
  have den:∀ q,(x.den s != 0)=q→(y.den s != 0)=q→((X.ite c x y).den s != 0)=q:=fun q h1 h2=>by
   simp only[X.den];split<;>assumption
  simp only[xH] at h
  split at h
  ·rename_i hq
   have:=xU hf hq
   have hc:c.den s≠0:=by simpa using this
   simp only[X.den,if_neg hc];exact xU hf h
  ·rename_i hq
   have:=xU hf hq
   have hc:c.den s=0:=by simpa using this
   simp only[X.den,if_pos hc];exact xU hf h
  ·split at h
   ·rename_i h1 h2;cases h;exact den _ (xU hf h1) (xU hf h2)
   ·rename_i h1 h2;cases h;exact den _ (xU hf h1) (xU hf h2)
   ·exact zD hf h
 | .var k i,b,h=>zD hf h
 | .conv k a,b,h=>zD hf h
 | .com k a,b,h=>zD hf h
 | .beq x y,b,h=>zD hf h
 | .min x y,b,h=>zD hf h
 | .max x y,b,h=>zD hf h
 | .dlen x,b,h=>zD hf h
def zZ {β:Type} (fc:Facts) (c:X) (K:Bool→Facts→qZ β):qZ β:=match c with
 | .lit n=>K (sJ n) fc
 | c=>match xH fc c with
  | some b=>K b fc
  | none=>.ite c (K true (Gb fc c true)) (K false (Gb fc c false))
theorem BH {β:Type} {Φ:uD} {s:ry} {fc:Facts} {c:X} {K:Bool→Facts→qZ β} {r:β} (hf:sQ s fc) (h:(zZ fc c K).path Φ s=some r):∃ fc',sQ s fc'∧(K (c.den s != 0) fc').path Φ s=some r:=by
 unfold zZ at h
 split at h
 ·rename_i n
  refine⟨fc,hf,?_⟩
  rw[uI] at h;exact h
 ·split at h
  ·rename_i b hb
   rw[xU hf hb];exact⟨fc,hf,h⟩
  ·simp only[qZ.path] at h
   split at h
   ·rename_i hc
    have:(c.den s != 0)=false:=by rw[hc];rfl
    rw[this];exact⟨_,O9 hf this,h⟩
   ·rename_i hc
    have:(c.den s != 0)=true:=by simpa using hc
    rw[this];exact⟨_,O9 hf this,h⟩
open Go.RowKit
inductive SV where
 | v (x:Value)
 | int (k:IntKind) (x:X)
 | bool (x:X)
 | loc (b off:Nat)
 | hd (k:Nat)
 | ha (k off:Nat)
 | sl (b off len cap:Nat)
 | fn (f:Fn) (a c:List SV)
 | tup (l:List SV)
 | agg (l:List SV)
mutual
def SV.den (s:ry):SV→AV
 | .v x=>.v x
 | .int k x=>.v (.int k (x.den s))
 | .bool x=>.v (.bool (x.den s != 0))
 | .loc b off=>.loc b off
 | .hd k=>.hd k
 | .ha k off=>.ha k off
 | .sl b off len cap=>.sl b off len cap
 | .fn f a c=>xh f (SV.dens s a) (SV.dens s c)
 | .tup l=>xg (SV.dens s l)
 | .agg l=>vY (SV.dens s l)
def SV.dens (s:ry):List SV→List AV
 | []=>[]
 | x::l=>SV.den s x::SV.dens s l
end
theorem SV.dens_map (s:ry):∀ l:List SV,SV.dens s l=l.map (SV.den s)
 | []=>rfl
 | x::l=>by rw[SV.dens,SV.dens_map s l];rfl
def xm (x:Value):SV:=match x with
 | .int k n=>.int k (.lit n)
 | .bool b=>.bool (.lit (rX b))
 | x=>.v x
theorem Pn (s:ry) (x:Value):(xm x).den s = .v x:=by
 cases x<;>first|rfl|(simp only[xm,SV.den,X.den,ut])
def BI (x:Value):SV:=match x with
 | .agg cs=>.agg (cs.toList.map xm)
 | x=>xm x
theorem zI (s:ry) (l:List Value):SV.dens s (l.map xm)=l.map .v:=by
 rw[SV.dens_map,List.map_map]
 apply List.map_congr_left;intro x _;exact Pn s x
theorem CW:∀ l:List Value,tO (l.map .v)=some l
 | []=>rfl
 | x::l=>by rw[List.map_cons,tO,CW l]
theorem L8 (l:List Value):vY (l.map .v) = .v (.agg l.toArray):=by unfold vY;rw[CW]
theorem L9 (l:List Value):xg (l.map .v) = .v (.tuple l.toArray):=by unfold xg;rw[CW]
theorem Ma (s:ry) (x:Value):(BI x).den s = .v x:=by
 unfold BI;split
 ·simp only[SV.den,zI,L8]
 ·exact Pn s _
structure SO where
 c:List SV
 t:Option TypeId
def BJ (n:Nat):List Value:=(Uo n).map fun d=>.int .u32 (Int.ofNat d)
def BK (c:List SV):X:=match c with
 | [.int _ x]=>x
 | _=>.lit (.ofNat 0)
def Uz:Value→Value×Value
 | .tuple xs=>match xs.toList with | [k,v]=>(k,v)|_=>(undef,undef)
 | _=>(undef,undef)
def Po:SV→Option (List (Value×Value))
 | .v (.tuple xs)=>some (xs.toList.map Uz)
 | _=>none
def yD (c:List SV):Option (List (Value×Value)):=match c with
 | [x]=>Po x
 | _=>none
def tH (k:VK) (n:Int):Value:=match k with | .int k=>.int k (k.wrap n) | .bool=>.bool (n != 0) | .bit=>.int .u64 (rX (n != 0)) | .nat=>.int .u64 (Int.ofNat n.toNat)
def sK:List VK→List Int→List Value
 | k::ks,n::ns=>tH k n::sK ks ns
 | _,_=>[]
structure JH where
 n:X
 b:Nat
 ks:List VK
def Mc:SV→VK
 | .int k _=>.int k
 | _=>.bool
def Md:SV→Bool
 | .v (.bool false)=>true
 | _=>false
def Me:SV→Option X
 | .int .i64 n=>some n
 | _=>none
def Mf:SV→Option Nat
 | .v (.int .i64 (.ofNat b))=>some b
 | _=>none
def yP (c:List SV):Option JH:=match c with
 | x::y::z::l=>match Md x,Me y,Mf z with
  | true,some n,some b=>some ⟨n,b,l.map Mc⟩
  | _,_,_=>none
 | _=>none
def xn (s:ry) (b:Nat) (ks:List VK):Nat→List Value
 | 0=>[]
 | n+1=>xn s b ks n++sK ks (vH s (b+n*ks.length) ks.length)
def SO.den (s:ry) (o:SO):AO:=match o.t with
 | some t=>.own (SV.dens s o.c) t
 | none=>match yD o.c with
  | some es=>.mp es
  | none=>match yP o.c with
   | some r=>.rd (r.n.den s).toNat (xn s r.b r.ks (r.n.den s).toNat)
   | none=>.rd (zY ((BK o.c).den s).toNat) (BJ ((BK o.c).den s).toNat)
theorem SO.den_own (s:ry) {o:SO} {t:TypeId} (h:o.t=some t):o.den s = .own (SV.dens s o.c) t:=by unfold SO.den;rw[h]
theorem SO.den_nat (s:ry) {o:SO} (h:o.t=none) (hm:yD o.c=none) (ho:yP o.c=none):o.den s = .rd (zY ((BK o.c).den s).toNat) (BJ ((BK o.c).den s).toNat):=by unfold SO.den;rw[h];simp only[];rw[hm];simp only[];rw[ho]
theorem SO.den_ora (s:ry) {o:SO} {r:JH} (h:o.t=none) (hm:yD o.c=none) (ho:yP o.c=some r):o.den s = .rd (r.n.den s).toNat (xn s r.b r.ks (r.n.den s).toNat):=by unfold SO.den;rw[h];simp only[];rw[hm];simp only[];rw[ho]
theorem SO.den_map (s:ry) {o:SO} {es:List (Value×Value)} (h:o.t=none) (hm:yD o.c=some es):o.den s = .mp es:=by unfold SO.den;rw[h];simp only[];rw[hm]
abbrev SH:=List (Nat×SO)
def hget:SH→Nat→Option SO
 | [],_=>none
 | x::l,k=>match Nat.beq x.1 k with|true=>some x.2|false=>hget l k
def SH.den (s:ry) (H:SH):rf:=fun k=>(hget H k).map (SO.den s)
abbrev rO:=List (Option SV)
def uR:rO→Nat→Option SV
 | [],_=>none
 | x::l,0=>x
 | x::l,n+1=>uR l n
def rO.den (s:ry) (T:rO):rP:=fun t=>(uR T t).map (SV.den s)
def Mg {β:Sort _} : rO→Nat→SV→(rO→β)→β
 | [],_,_,k=>k []
 | x::l,0,v,k=>k (some v::l)
 | x::l,n+1,v,k=>Mg l n v fun l'=>k (x::l')
def Aa:rO→Nat→SV→rO
 | [],_,_=>[]
 | _::l,0,v=>some v::l
 | x::l,n+1,v=>x::Aa l n v
theorem UA {β:Sort _} : ∀ (T:rO) (n:Nat) (v:SV) (k:rO→β),Mg T n v k=k (Aa T n v)
 | [],_,_,_=>rfl
 | x::l,0,_,_=>rfl
 | x::l,n+1,v,k=>by rw[Mg,UA l n v];rfl
theorem UB:∀ (T:rO) (n:Nat) (v:SV) (t:Nat),uR (Aa T n v) t=if t=n∧n<T.length then some v else uR T t
 | [],n,v,t=>by simp[Aa]
 | x::l,0,v,0=>by simp[Aa,uR]
 | x::l,0,v,t+1=>by simp[Aa,uR]
 | x::l,n+1,v,t=>by
  rw[Aa]
  cases t with
  | zero=>simp[uR]
  | succ t =>
   show uR (Aa l n v) t=_
   rw[UB l n v t];simp[uR]
theorem UC:∀ (T:rO) (n:Nat) (v:SV),(Aa T n v).length=T.length
 | [],_,_=>rfl
 | x::l,0,_=>rfl
 | x::l,n+1,v=>by rw[Aa];simp[UC l n v]
theorem rO.den_set (s:ry) (T:rO) (n:Nat) (v:SV) (h:n<T.length):rO.den s (Aa T n v)=(rO.den s T).put (some n) (v.den s):=by
 funext t
 unfold rO.den
 rw[UB]
 by_cases ht:t=n
 ·subst ht;rw[if_pos ⟨rfl,h⟩,rP.put_same];rfl
 ·rw[if_neg (fun e=>ht e.1),rP.put_ne _ _ _ ht]
def hset {β:Sort _} : SH→Nat→SO→(SH→β)→β
 | [],k,o,K=>K [(k,o)]
 | x::l,k,o,K=>match Nat.beq x.1 k with
  | true=>K ((k,o)::l)
  | false=>hset l k o fun l'=>K (x::l')
def CX:SH→Nat→SO→SH
 | [],k,o=>[(k,o)]
 | x::l,k,o=>match Nat.beq x.1 k with
  | true=>(k,o)::l
  | false=>x::CX l k o
theorem UD {β:Sort _} : ∀ (H:SH) (k:Nat) (o:SO) (K:SH→β),hset H k o K=K (CX H k o)
 | [],_,_,_=>rfl
 | x::l,k,o,K=>by
  simp only[hset,CX]
  cases Nat.beq x.1 k with
  | true=>rfl
  | false=>simp only[];rw[UD l k o]
theorem Pp:∀ (H:SH) (k:Nat) (o:SO) (j:Nat),hget (CX H k o) j=if j=k then some o else hget H j
 | [],k,o,j=>by
  simp only[CX,hget]
  cases h:Nat.beq k j with
  | true=>rw[if_pos (sN.1 h).symm]
  | false=>rw[if_neg];intro e;subst e;simp at h
 | x::l,k,o,j=>by
  simp only[CX]
  cases h:Nat.beq x.1 k with
  | true =>
   have hx:=sN.1 h
   simp only[hget]
   cases h2:Nat.beq k j with
   | true=>rw[if_pos (sN.1 h2).symm]
   | false =>
    have:j≠k:=fun e=>by subst e;simp at h2
    rw[if_neg this,hx,h2]
  | false =>
   simp only[hget]
   cases h2:Nat.beq x.1 j with
   | true =>
    have hj:=sN.1 h2
    have:j≠k:=fun e=>by rw[← hj] at e;rw[e] at h;simp at h
    rw[if_neg this]
   | false=>simp only[];exact Pp l k o j
theorem SH.den_set (s:ry) (H:SH) (k:Nat) (o:SO):SH.den s (CX H k o)=(SH.den s H).put k (o.den s):=by
 funext j
 unfold SH.den rf.put
 rw[Pp]
 split<;>rfl
def AQ {β:Sort _} : SH→List (Nat×SO)→(SH→β)→β
 | H,[],K=>K H
 | H,x::l,K=>hset H x.1 x.2 fun H=>AQ H l K
def Ed:SH→List (Nat×SO)→SH
 | H,[]=>H
 | H,x::l=>Ed (CX H x.1 x.2) l
theorem UE {β:Sort _} : ∀ (l:List (Nat×SO)) (H:SH) (K:SH→β),AQ H l K=K (Ed H l)
 | [],_,_=>rfl
 | x::l,H,K=>by rw[AQ,UD,UE l,Ed]
def sD (s:ry) (ef:List (Nat×SO)):List (Nat×AO):=ef.map fun x=>(x.1,x.2.den s)
theorem UF (s:ry):∀ (l:List (Nat×SO)) (H:SH),SH.den s (Ed H l)=(SH.den s H).puts (sD s l)
 | [],_=>rfl
 | x::l,H=>by rw[Ed,UF s l,SH.den_set];rfl
def zJ (T:rO):Operand→Option SV
 | .tmp t=>uR T t
 | .const v=>some (BI v)
 | .global g=>some (.v (.pointer (some ⟨g,0,none⟩)))
 | .func f=>some (.v (.func (.func f) #[] #[]))
def RD (s:ry) (ρ:Operand→Option SV) (ρ':Operand→Option AV):Prop:=∀ x a,ρ x=some a→ρ' x=some (a.den s)
theorem CY (s : ry) (T : rO) : RD s (zJ T) (uO (rO.den s T)) := by
  intro x a h
  cases x with
  | tmp t => have h : uR T t = some a := h
             simp [uO, rO.den, h]
  | const v => simp only [zJ, Option.some.injEq] at h; subst h; rw [Ma]; rfl
  | global g => simp only [zJ, Option.some.injEq] at h; subst h; rfl
  | func f => simp only [zJ, Option.some.injEq] at h; subst h; rfl
def cellsS:SV→List SV
 | .v x=>x.cells.toList.map xm
 | .agg l=>l
 | x=>[x]
theorem JI (l:List AV):tu (vY l)=l:=by
 unfold vY
 cases h:tO l with
 | none=>rfl
 | some vs =>
  simp only[tu,Value.cells]
  induction l generalizing vs with
  | nil=>simp only[tO,Option.some.injEq] at h;subst h;rfl
  | cons x l ih =>
   cases x<;>simp only[tO] at h<;>try cases h
   rename_i x
   cases h2:tO l with
   | none=>rw[h2] at h;cases h
   | some ws =>
    rw[h2] at h
    simp only[Option.some.injEq] at h
    subst h
    simpa using ih ws h2
theorem acU (l:List AV):tu (xg l) = [xg l]:=by
 unfold xg;split<;>rfl
theorem acV (f:Fn) (a c:List AV):tu (xh f a c) = [xh f a c]:=by
 unfold xh;split<;>rfl
theorem Gg (s:ry) (a:SV):SV.dens s (cellsS a)=tu (a.den s):=by
 cases a with
 | v x=>simp only[cellsS,zI,SV.den,tu]
 | agg l=>simp only[cellsS,SV.den,JI]
 | tup l=>simp only[cellsS,SV.dens,SV.den,acU]
 | fn f a c=>simp only[cellsS,SV.dens,SV.den,acV]
 | int k x=>simp only[cellsS,SV.dens,SV.den,tu,Value.cells,List.map_cons,List.map_nil]
 | bool x=>simp only[cellsS,SV.dens,SV.den,tu,Value.cells,List.map_cons,List.map_nil]
 | _=>rfl
def sZ:SV→Bool
 | .v (.agg _)=>false
 | .v (.tuple _)=>false
 | .agg _=>false
 | .tup _=>false
 | .ha _ _=>false
 | _=>true
theorem acW (f:Fn) (a c:List AV):DJ (xh f a c)=true:=by unfold xh;split<;>rfl
theorem acX {s:ry} {a:SV} (h:sZ a=true):DJ (a.den s)=true:=by
 cases a with
 | v x=>cases x<;>first|rfl|cases h
 | fn f a c=>exact acW _ _ _
 | agg l=>cases h
 | tup l=>cases h
 | ha k o=>cases h
 | _=>rfl
def tT {β:Sort _} : Nat→List SV→(List SV→β)→β
 | 0,_,K=>K []
 | _+1,[],K=>K []
 | n+1,x::l,K=>tT n l fun l'=>K (x::l')
def BL (P:Program) (t:TypeId) (c:List SV) (off:Nat):Option SV :=
 match Cw P t with
 | some true=>match tq P t with
  | some sz=>match Nat.ble (off+sz) c.length,Nat.ble 1 sz with
   | true,true=>BD ((c.drop off).take sz) fun l=>some (.agg l)
   | _,_=>none
  | none=>none
 | some false=>c[off]?
 | none=>none
theorem zi (s:ry) (l:List SV):(SV.dens s l).length=l.length:=by rw[SV.dens_map];simp
theorem Pq (s:ry) (l:List SV) (n:Nat):SV.dens s (l.take n)=(SV.dens s l).take n:=by rw[SV.dens_map,SV.dens_map,List.map_take]
theorem Ps (s:ry) (l:List SV) (n:Nat):SV.dens s (l.drop n)=(SV.dens s l).drop n:=by rw[SV.dens_map,SV.dens_map,List.map_drop]
theorem CZ (s:ry) (a b:List SV):SV.dens s (a++b)=SV.dens s a++SV.dens s b:=by simp[SV.dens_map]
theorem UG (s:ry) {l:List SV} {i:Nat} {x:SV} (h:l[i]? = some x):(SV.dens s l)[i]? = some (x.den s):=by rw[SV.dens_map];simp[h]
theorem Ee {P:Program} {t:TypeId} {c:List SV} {off:Nat} {r:SV} (s:ry) (h:BL P t c off=some r):vv P t (SV.dens s c) off=some (r.den s):=by
 unfold BL at h
 unfold vv
 split at h
 ·rename_i ha
  rw[ha]
  simp only
  split at h
  ·rename_i sz hs
   rw[hs]
   simp only
   split at h
   ·rename_i h1 h2
    rw[DY] at h
    cases h
    have h1:=Nat.le_of_ble_eq_true h1;have h2:=Nat.le_of_ble_eq_true h2
    rw[if_pos ⟨by rw[zi];exact h1,h2⟩]
    simp only[SV.den,Pq,Ps]
   ·cases h
  ·cases h
 ·rename_i ha
  rw[ha]
  exact UG s h
 ·cases h
abbrev SR:=SV×List Nat×List (Nat×SO)
def one (a:SV):qZ SR:=.leaf (a,[],[])
def Gh (w:String) (x:Option SV):qZ SR:=match x with|some a=>.leaf (a,[],[])|none=>.stuck w
def Pt (P:Program) (G:rJ) (t:TypeId) (H:SH) (a:SV):qZ SR:=match a with
 | .loc b off=>match hget H b with
  | some o=>match o.t with
   | some _=>match BL P t o.c off with|some r=>.leaf (r,[b],[])|none=>.stuck "load: cells"
   | none=>.stuck "load: a number"
  | none=>.stuck "load: block"
 | .v (.pointer (some ⟨g,off,none⟩))=>match Jn G g with
  | some c=>match BL P t (c.map xm) off with|some r=>one r|none=>.stuck "load: global cells"
  | none=>.stuck "load: global"
 | _=>.stuck "load"
def UH (c:List SV) (off:Nat) (ys:List SV):List SV:=c.take off++ys++c.drop (off+ys.length)
def Pv (P:Program) (t:TypeId) (H:SH) (x y:SV):qZ SR:=match x with
 | .loc b off=>match hget H b with
  | some ⟨_,none⟩=>.stuck "store: a number"
  | some o=>match (cellsS y).all sZ,tq P t with
   | true,some n=>match Nat.beq n (cellsS y).length,Nat.ble (off+(cellsS y).length) o.c.length with
    | true,true=>BD (UH o.c off (cellsS y)) fun c=>.leaf (.v undef,[b],[(b,⟨c,o.t⟩)])
    | _,_=>.stuck "store: size"
   | _,_=>.stuck "store: cells"
  | none=>.stuck "store: block"
 | _=>.stuck "store"
def Pw (P:Program) (t:TypeId) (f:Nat) (x:SV):Option SV:=match x with
 | .agg l=>match Av P t f with
  | some (off,ft)=>BL P ft l off
  | none=>none
 | .v (.agg cs)=>match Av P t f with
  | some (off,ft)=>BL P ft (cs.toList.map xm) off
  | none=>none
 | _=>none
def Px (P:Program) (t:TypeId) (f:Nat) (x:SV):Option SV :=
 match Av P t f with
 | some (off,ft)=>match tq P ft with
  | some (_+1)=>match x with
   | .loc b o=>uu (o+off) fun n=>some (.loc b n)
   | .v (.pointer (some ⟨g,o,none⟩))=>uu (o+off) fun n=>some (.v (.pointer (some ⟨g,n,none⟩)))
   | _=>none
  | _=>none
 | none=>none
def Gi {α:Type} (x:X) (f:Nat→qZ α):Nat→Nat→Facts→qZ α
 | 0,_,_=>.stuck "index"
 | m+1,j,fc=>match xH fc (.bin .eql .i64 x (.lit (.ofNat j))) with
  | some true=>f j
  | some false=>Gi x f m (Nat.succ j) fc
  | none=>.ite (.bin .eql .i64 x (.lit (.ofNat j))) (f j) (Gi x f m (Nat.succ j) (Gb fc (.bin .eql .i64 x (.lit (.ofNat j))) false))
def Ef {α:Type} (fc:Facts) (x:X) (len:Nat) (f:Nat→qZ α):qZ α:=match x with
 | .lit (.ofNat j)=>match Nat.blt j len with|true=>f j|false=>.stuck "index: out of range"
 | .lit (.negSucc _)=>.stuck "index: below 0"
 | x=>Gi x f len 0 fc
theorem Py {α:Type} {Φ:uD} {s:ry} {x:X} {f:Nat→qZ α} {a:α} : ∀ (m j:Nat) (fc:Facts),sQ s fc→(Gi x f m j fc).path Φ s=some a→∃ i,j≤i∧i<j+m∧x.den s=i∧(f i).path Φ s=some a
 | 0,j,fc,hf,h=>by cases h
 | m+1,j,fc,hf,h=>by
  have eqj:((X.bin .eql .i64 x (.lit (.ofNat j))).den s != 0)=true→x.den s=(j:Int):=fun hq=>by
   simp only[X.den,rM,ut] at hq;simpa using hq
  have ite:(qZ.ite (.bin .eql .i64 x (.lit (.ofNat j))) (f j) (Gi x f m (Nat.succ j) (Gb fc (.bin .eql .i64 x (.lit (.ofNat j))) false))).path Φ s=some a→∃ i,j≤i∧i<j+(m+1)∧x.den s=i∧(f i).path Φ s=some a:=fun h=>by
   simp only[qZ.path] at h
   split at h
   ·rename_i hc
    obtain⟨i,h1,h2,h3,h4⟩:=Py m (j+1) _ (O9 hf (by rw[hc];rfl)) h
    exact⟨i,by omega,by omega,h3,h4⟩
   ·rename_i hne
    exact⟨j,Nat.le_refl _,by omega,eqj (by simpa using hne),h⟩
  simp only[Gi] at h
  split at h
  ·rename_i hd;exact⟨j,Nat.le_refl _,by omega,eqj (xU hf hd),h⟩
  ·obtain⟨i,h1,h2,h3,h4⟩:=Py m (j+1) fc hf h
   exact⟨i,by omega,by omega,h3,h4⟩
  ·exact ite h
theorem JJ {α:Type} {Φ:uD} {s:ry} {fc:Facts} (hf:sQ s fc) {x:X} {len:Nat} {f:Nat→qZ α} {a:α} (h:(Ef fc x len f).path Φ s=some a):∃ i,i<len∧x.den s=(i:Int)∧(f i).path Φ s=some a:=by
 unfold Ef at h
 split at h
 ·rename_i j
  split at h
  ·rename_i hb
   exact⟨j,by simpa [Nat.blt_eq] using hb,rfl,h⟩
  ·cases h
 ·cases h
 ·obtain⟨i,_,h2,h3,h4⟩:=Py _ _ _ hf h
  exact⟨i,by omega,h3,h4⟩
def Pz (P:Program) (fc:Facts) (t:TypeId) (x i:SV):qZ SR:=match i with
 | .int _ n=>match x with
  | .loc b o=>match yl P t with
   | some (len,el)=>match tq P el with
    | some sz=>Ef fc n len fun j=>uu (o+j*sz) fun q=>one (.loc b q)
    | none=>.stuck "indexAddr: size"
   | none=>.stuck "indexAddr: no array"
  | .v (.pointer (some ⟨g,o,none⟩))=>match yl P t with
   | some (len,el)=>match tq P el with
    | some sz=>Ef fc n len fun j=>uu (o+j*sz) fun q=>one (.v (.pointer (some ⟨g,q,none⟩)))
    | none=>.stuck "indexAddr: size"
   | none=>.stuck "indexAddr: no array"
  | .sl b o len _=>match Aw P t with
   | some el=>match tq P el with
    | some sz=>Ef fc n len fun j=>uu (o+j*sz) fun q=>one (.loc b q)
    | none=>.stuck "indexAddr: size"
   | none=>.stuck "indexAddr: no slice"
  | _=>.stuck "indexAddr"
 | _=>.stuck "indexAddr: index"
def PD (P:Program) (fc:Facts) (t:TypeId) (x i:SV):qZ SR:=match i with
 | .int _ n=>match x with
  | .agg l=>match yl P t with
   | some (len,el)=>match tq P el with
    | some sz=>Ef fc n len fun j=>Gh "index: cells" (BL P el l (j*sz))
    | none=>.stuck "index: size"
   | none=>.stuck "index: no array"
  | .v (.agg cs)=>match yl P t with
   | some (len,el)=>match tq P el with
    | some sz=>Ef fc n len fun j=>Gh "index: cells" (BL P el (cs.toList.map xm) (j*sz))
    | none=>.stuck "index: size"
   | none=>.stuck "index: no array"
  | _=>.stuck "index"
 | _=>.stuck "index: index"
def PE (x:SV) (i:Nat):Option SV:=match x with
 | .v (.tuple vs)=>match vs.toList[i]? with|some v=>some (xm v)|none=>none
 | .tup l=>l[i]?
 | _=>none
def Gj (place:Nat→Option (Nat×Nat)) (cells:List SV):List (Nat×SV)→Option (List SV)
 | []=>some cells
 | (i,x)::rest=>match place i with
  | none=>none
  | some (off,size)=>match Nat.beq (cellsS x).length size,Nat.ble (off+size) cells.length with
   | true,true=>BD (cells.take off++cellsS x++cells.drop (off+size)) fun c=>Gj place c rest
   | _,_=>none
def Mh (s:ry) (l:List (Nat×SV)):List (Nat×AV):=l.map fun x=>(x.1,x.2.den s)
theorem PG {place:Nat→Option (Nat×Nat)} (s:ry):∀ {ps:List (Nat×SV)} {cells c:List SV},Gj place cells ps=some c→zB place (SV.dens s cells) (Mh s ps)=some (SV.dens s c)
 | [],cells,c,h=>by simp only[Gj,Option.some.injEq] at h;subst h;rfl
 | (i,x)::rest,cells,c,h=>by
  simp only[Gj] at h
  simp only[Mh,List.map_cons,zB]
  split at h
  ·cases h
  ·rename_i off size hp
   rw[hp]
   simp only
   split at h
   ·rename_i h1 h2
    rw[DY] at h
    have h1:=sN.1 h1;have h2:=Nat.le_of_ble_eq_true h2
    rw[if_pos ⟨by rw[← Gg,zi];exact h1,by rw[zi];exact h2⟩]
    have:=PG s h
    rw[CZ,CZ,Pq,Ps,Gg] at this
    exact this
   ·cases h
def Gm (ρ:Operand→Option SV):List (Nat×Operand)→Option (List (Nat×SV))
 | []=>some []
 | (i,x)::l=>match ρ x,Gm ρ l with
  | some a,some r=>some ((i,a)::r)
  | _,_=>none
theorem PH {s:ry} {ρ:Operand→Option SV} {ρ':Operand→Option AV} (hρ:RD s ρ ρ'):∀ {l:List (Nat×Operand)} {r:List (Nat×SV)},Gm ρ l=some r→ym ρ' l=some (Mh s r)
 | [],r,h=>by simp only[Gm,Option.some.injEq] at h;subst h;rfl
 | (i,x)::l,r,h=>by
  simp only[Gm] at h
  split at h
  ·rename_i a r' ha hr
   cases h
   rw[ym,hρ x a ha,PH hρ hr];rfl
  ·cases h
def Eg (ρ:Operand→Option SV):List Operand→Option (List SV)
 | []=>some []
 | x::l=>match ρ x,Eg ρ l with
  | some a,some r=>some (a::r)
  | _,_=>none
theorem Mi {s:ry} {ρ:Operand→Option SV} {ρ':Operand→Option AV} (hρ:RD s ρ ρ'):∀ {l:List Operand} {r:List SV},Eg ρ l=some r→xy ρ' l=some (SV.dens s r)
 | [],r,h=>by simp only[Eg,Option.some.injEq] at h;subst h;rfl
 | x::l,r,h=>by
  simp only[Eg] at h
  split at h
  ·rename_i a r' ha hr
   cases h
   rw[xy,hρ x a ha,Mi hρ hr];rfl
  ·cases h
abbrev Gn:=TypeId→SV→SV→Option X
def Mj (P:Program) (SE:Gn) (E:sV):Prop:=∀ t x y r (s:ry),SE t x y=some r→∃ a b,x.den s = .v a∧y.den s = .v b∧vZ P .eql t a b=none∧vZ P .neq t a b=none∧E .eql t a b=some (.bool (r.den s != 0))∧E .neq t a b=some (.bool (!(r.den s != 0)))
def C8 (fc:Facts) (w:String) (c:X) (t:qZ SR):qZ SR:=match xH fc c with
 | some true=>.stuck w
 | some false=>t
 | none=>Ga c (.stuck w) t
def PI (fc:Facts) (op:BinOp) (k k':IntKind) (a b:X):qZ SR:=match op with
 | .shl=>match X.inK k' b,k'.signed with
  | true,false=>uw (uo .shl k a b) fun x=>one (.int k x)
  | _,_=>C8 fc "shift below 0" (uo .lss k' b (.lit (.ofNat 0))) (uw (uo .shl k a b) fun x=>one (.int k x))
 | .shr=>match X.inK k' b,k'.signed with
  | true,false=>uw (uo .shr k a b) fun x=>one (.int k x)
  | _,_=>C8 fc "shift below 0" (uo .lss k' b (.lit (.ofNat 0))) (uw (uo .shr k a b) fun x=>one (.int k x))
 | .quo=>match vG k k' with
  | true=>C8 fc "by 0" (uo .eql k' b (.lit (.ofNat 0))) (uw (uo .quo k a b) fun x=>one (.int k x))
  | false=>.stuck "kinds"
 | .rem=>match vG k k' with
  | true=>C8 fc "by 0" (uo .eql k' b (.lit (.ofNat 0))) (uw (uo .rem k a b) fun x=>one (.int k x))
  | false=>.stuck "kinds"
 | .add | .sub | .mul | .and | .or | .xor | .andNot=>match vG k k' with
  | true=>uw (uo op k a b) fun x=>one (.int k x)
  | false=>.stuck "kinds"
 | .eql | .neq | .lss | .leq | .gtr | .geq=>match vG k k' with
  | true=>uw (uo op k a b) fun x=>one (.bool x)
  | false=>.stuck "kinds"
def PK (P:Program) (SE:Gn) (fc:Facts) (op:BinOp) (t:TypeId) (x y:SV):qZ SR:=match x,y with
 | .int k a,.int k' b=>PI fc op k k' a b
 | .bool a,.bool b=>match P.underlying t with
  | some .bool=>match op with
   | .eql=>uw (LY a b) fun x=>one (.bool x)
   | .neq=>uw (mkNot (LY a b)) fun x=>one (.bool x)
   | _=>.stuck "binOp: bools"
  | _=>.stuck "binOp: bool type"
 | x,y=>match op with
  | .eql=>match SE t x y with|some r=>uw r fun r=>one (.bool r)|none=>.stuck "eql"
  | .neq=>match SE t x y with|some r=>uw (mkNot r) fun r=>one (.bool r)|none=>.stuck "neq"
  | _=>.stuck "binOp"
def PL (op:UnOp) (x:SV):qZ SR:=match op,x with
 | .neg,.int k a=>uw (uo .sub k (.lit (.ofNat 0)) a) fun x=>one (.int k x)
 | .xor,.int k a=>uw (LX k a) fun x=>one (.int k x)
 | .not,.bool a=>uw (mkNot a) fun x=>one (.bool x)
 | _,_=>.stuck "unOp"
def PM (P:Program) (src dst:TypeId) (x:SV):qZ SR:=match x with
 | .int _ a=>match FB P dst,P.underlying src with
  | some k,some _=>uw (O3 k a) fun x=>one (.int k x)
  | _,_=>.stuck "convert: type"
 | _=>.stuck "convert"
def PN (x:SV):qZ SR:=match x with
 | .loc b o=>one (.loc b o)
 | .v (.func (.func f) a c)=>one (.v (.func (.func f) a c))
 | .v (.pointer (some p))=>one (.v (.pointer (some p)))
 | .fn (.func f) a c=>one (.fn (.func f) a c)
 | _=>.stuck "nilCheck"
def sLen (P:Program) (t:TypeId) (H:SH) (x:SV):qZ SR:=match P.underlying t with
 | some (.slice _)=>match x with
  | .hd k=>match hget H k with
   | some ⟨[.int _ x],none⟩=>.leaf (.int .i64 (.dlen x),[k],[])
   | some ⟨c,none⟩=>match yD c,yP c with
    | none,some r=>uw (LZ r.n (.lit (.ofNat 0))) fun x=>.leaf (.int .i64 x,[k],[])
    | _,_=>.stuck "len: handle"
   | _=>.stuck "len: handle"
  | .sl _ _ n _=>one (.int .i64 (.lit (.ofNat n)))
  | .v (.slice _ n _)=>one (.int .i64 (.lit (.ofNat n)))
  | _=>.stuck "len: slice"
 | some .string=>match x with | .v (.string s)=>uu s.size fun n=>one (.int .i64 (.lit (.ofNat n)))|_=>.stuck "len: string"
 | some (.array n _)=>one (.int .i64 (.lit (.ofNat n)))
 | _=>.stuck "len"
def PO (P:Program) (t:TypeId) (x:SV):qZ SR:=match yl P t with
 | some (n,_)=>match x with
  | .sl b o len _=>match Nat.ble n len with|true=>one (.loc b o)|false=>.stuck "arrayAt: len"
  | _=>.stuck "arrayAt"
 | none=>.stuck "arrayAt: no array"
def PP (P:Program) (t:TypeId) (k:Nat) (x y:SV):qZ SR:=match x,y with
 | .int _ (.lit (.ofNat n)),.int _ (.lit (.ofNat m))=>match Aw P t with
  | some el=>match tq P el,zT P el,Oc P el with
   | some sz,some z,some b=>match Nat.ble n m,Nat.blt m 16777216,Nat.ble b 4096,Nat.beq (m*sz) 0 with
    | true,true,true,false=>BD ((Bu z (m*sz)).map xm) fun c=>.leaf (.sl k 0 n m,[],[(k,⟨c,some el⟩)])
    | _,_,_,_=>.stuck "makeSlice: size"
   | _,_,_=>.stuck "makeSlice: type"
  | none=>.stuck "makeSlice: no slice"
 | _,_=>.stuck "makeSlice"
def PQ (P:Program) (t:TypeId) (x:SV):qZ SR:=match yl P t with
 | some (n,el)=>match x,tq P el with
  | .loc b o,some _=>one (.sl b o n n)
  | _,_=>.stuck "slice"
 | none=>.stuck "slice: no array"
def PR (P:Program) (t:TypeId) (len:Nat) (k:Nat) (ps:List (Nat×SV)):qZ SR:=match Aw P t with
 | some el=>match tq P el,zT P el with
  | some sz,some z=>match Nat.ble (len*sz) 16777216,Nat.beq (len*sz) 0 with
   | true,false=>match Gj (fun i=>some (i*sz,sz)) ((Bu z (len*sz)).map xm) ps with
    | some c=>.leaf (.sl k 0 len len,[],[(k,⟨c,some el⟩)])
    | none=>.stuck "buildSlice: parts"
   | _,_=>.stuck "buildSlice: size"
  | _,_=>.stuck "buildSlice: type"
 | none=>.stuck "buildSlice"
def o1 (ρ:Operand→Option SV) (x:Operand) (f:SV→qZ SR):qZ SR:=match ρ x with|some a=>f a|none=>.stuck "operand"
def o2 (ρ:Operand→Option SV) (x y:Operand) (f:SV→SV→qZ SR):qZ SR:=match ρ x with
 | some a=>match ρ y with|some b=>f a b|none=>.stuck "operand"
 | none=>.stuck "operand"
def PS (P:Program) (G:rJ) (SE:Gn) (fc:Facts) (op:Op) (ρ:Operand→Option SV) (H:SH) (k:Nat):qZ SR :=
 match op with
 | .move x=>o1 ρ x one
 | .assign x=>o1 ρ x one
 | .pick c a b=>o1 ρ c fun v=>match v with
  | .bool q=>Ga q (o1 ρ a one) (o1 ρ b one)
  | _=>.stuck "pick"
 | .alloc t=>match zT P t with|some z=>BD (z.map xm) fun c=>.leaf (.loc k 0,[],[(k,⟨c,some t⟩)])|none=>.stuck "alloc"
 | .box t x=>o1 ρ x fun a=>BD (cellsS a) fun c=>.leaf (.loc k 0,[],[(k,⟨c,some t⟩)])
 | .build t ps=>match Gm ρ ps.toList,zT P t with
  | some l,some z=>match Lv P t with
   | true=>match Gj (Jo P t) (z.map xm) l with|some c=>one (.agg c)|none=>.stuck "build: parts"
   | false=>.stuck "build: sizes"
  | _,_=>.stuck "build"
 | .buildSlice t len ps=>match Gm ρ ps.toList with|some l=>PR P t len k l|none=>.stuck "buildSlice: operands"
 | .load t x=>o1 ρ x fun a=>Pt P G t H a
 | .store t x y=>o2 ρ x y fun a b=>Pv P t H a b
 | .nilCheck x=>o1 ρ x PN
 | .binOp op t x y _=>o2 ρ x y fun a b=>PK P SE fc op t a b
 | .unOp op _ x=>o1 ρ x fun a=>PL op a
 | .convert s d x=>o1 ρ x fun a=>PM P s d a
 | .makeFunc f a c=>match Eg ρ a.toList,Eg ρ c.toList with|some x,some y=>one (.fn f x y)|_,_=>.stuck "makeFunc"
 | .fieldAddr t x f=>o1 ρ x fun a=>Gh "fieldAddr" (Px P t f a)
 | .field t x f=>o1 ρ x fun a=>Gh "field" (Pw P t f a)
 | .indexAddr t x i=>o2 ρ x i fun a b=>Pz P fc t a b
 | .index t x i=>o2 ρ x i fun a b=>PD P fc t a b
 | .extract x i=>o1 ρ x fun a=>Gh "extract" (PE a i)
 | .call { callee:=.builtin .len,args:=args,argTypes:=ts }=>match args.toList,ts.toList with
  | [x],[t]=>o1 ρ x fun a=>sLen P t H a
  | _,_=>.stuck "len: operands"
 | .call { callee:=.builtin .min,args:=args,argTypes:=_ }=>match args.toList with
  | [x,y]=>o2 ρ x y fun a b=>match a,b with
   | .int k a,.int _ b=>uw (O5 a b) fun x=>one (.int k x)
   | _,_=>.stuck "min"
  | _=>.stuck "min: operands"
 | .call { callee:=.builtin .max,args:=args,argTypes:=_ }=>match args.toList with
  | [x,y]=>o2 ρ x y fun a b=>match a,b with
   | .int k a,.int _ b=>uw (LZ a b) fun x=>one (.int k x)
   | _,_=>.stuck "max"
  | _=>.stuck "max: operands"
 | .sliceToArrayPointer t x=>o1 ρ x fun a=>PO P t a
 | .makeSlice t x y=>o2 ρ x y fun a b=>PP P t k a b
 | .slice t x none none none=>o1 ρ x fun a=>PQ P t a
 | _=>.stuck "no such operation"
open Go.RowKit
theorem SH.den_get {s:ry} {H:SH} {k:Nat} {o:SO} {t:TypeId} (h:hget H k=some o) (ht:o.t=some t):SH.den s H k=some (.own (SV.dens s o.c) t):=by unfold SH.den;rw[h,Option.map_some,SO.den_own s ht]
theorem SH.den_nat {s:ry} {H:SH} {k:Nat} {o:SO} (h:hget H k=some o) (ht:o.t=none) (hm:yD o.c=none) (ho:yP o.c=none):SH.den s H k=some (.rd (zY ((BK o.c).den s).toNat) (BJ ((BK o.c).den s).toNat)):=by unfold SH.den;rw[h,Option.map_some,SO.den_nat s ht hm ho]
theorem SH.den_ora {s:ry} {H:SH} {k:Nat} {o:SO} {r:JH} (h:hget H k=some o) (ht:o.t=none) (hm:yD o.c=none) (ho:yP o.c=some r):SH.den s H k=some (.rd (r.n.den s).toNat (xn s r.b r.ks (r.n.den s).toNat)):=by unfold SH.den;rw[h,Option.map_some,SO.den_ora s ht hm ho]
theorem SH.den_map {s:ry} {H:SH} {k:Nat} {o:SO} {es:List (Value×Value)} (h:hget H k=some o) (ht:o.t=none) (hm:yD o.c=some es):SH.den s H k=some (.mp es):=by unfold SH.den;rw[h,Option.map_some,SO.den_map s ht hm]
section
variable {P:Program} {G:rJ} {SE:Gn} {E:sV} {Φ:uD} {s:ry} {r:SR} {fc:Facts}
theorem zK {a:SV} (h:(one a).path Φ s=some r):r=(a,[],[]):=by cases h;rfl
theorem JK {w:String} {x:Option SV} (h:(Gh w x).path Φ s=some r):∃ a,x=some a∧r=(a,[],[]):=by
 cases x with
 | none=>cases h
 | some a=>cases h;exact⟨a,rfl,rfl⟩
theorem xV {ρ:Operand→Option SV} {x:Operand} {f:SV→qZ SR} (h:(o1 ρ x f).path Φ s=some r):∃ a,ρ x=some a∧(f a).path Φ s=some r:=by
 unfold o1 at h;split at h
 ·rename_i a ha;exact⟨a,ha,h⟩
 ·cases h
theorem Eh {ρ:Operand→Option SV} {x y:Operand} {f:SV→SV→qZ SR} (h:(o2 ρ x y f).path Φ s=some r):∃ a b,ρ x=some a∧ρ y=some b∧(f a b).path Φ s=some r:=by
 unfold o2 at h;split at h
 ·rename_i a ha
  split at h
  ·rename_i b hb;exact⟨a,b,ha,hb,h⟩
  ·cases h
 ·cases h
theorem zk {x:X} {k:X→qZ SR} (h:(uw x k).path Φ s=some r):(k x).path Φ s=some r:=by rwa [acH] at h
theorem acY {t:TypeId} {H:SH} {a:SV} (h:(Pt P G t H a).path Φ s=some r):xx P G t (SH.den s H) (a.den s)=some (r.1.den s,r.2.1,sD s r.2.2):=by
 unfold Pt at h
 split at h
 ·rename_i b off
  split at h
  ·rename_i o ho
   split at h
   ·rename_i t0 ht
    split at h
    ·rename_i r' hr
     cases h
     simp only[SV.den,xx,SH.den_get ho ht,Ee s hr];rfl
    ·cases h
   ·cases h
  ·cases h
 ·rename_i g off
  split at h
  ·rename_i c hc
   split at h
   ·rename_i r' hr
    cases h
    have:=Ee s hr
    rw[zI] at this
    simp only[SV.den,xx,hc,this];rfl
   ·cases h
  ·cases h
 ·cases h
theorem acZ {t:TypeId} {H:SH} {x y:SV} (h:(Pv P t H x y).path Φ s=some r):Bq P t (SH.den s H) (x.den s) (y.den s)=some (r.1.den s,r.2.1,sD s r.2.2):=by
  unfold Pv at h
  split at h
  · rename_i b off
    split at h
    · cases h
    · rename_i o hno ho
      obtain⟨t0,ht⟩:∃ t0,o.t=some t0:=by
        obtain⟨c,t0⟩:=o
        cases t0 with
        | none=>exact absurd rfl (hno c)
        | some t0=>exact⟨t0,rfl⟩
      split at h
      · rename_i n h1 hn
        split at h
        · rename_i h2 h3
          rw[DY] at h
          cases h
          have h2:=sN.1 h2;have h3:=Nat.le_of_ble_eq_true h3
          have hl:(tu (y.den s)).length=(cellsS y).length:=by rw[← Gg,zi]
          have ha:(tu (y.den s)).all DJ=true:=by
            rw[← Gg,SV.dens_map,List.all_map,List.all_eq_true]
            intro z hz
            exact acX (List.all_eq_true.1 h1 z hz)
          simp only[SV.den,Bq,SH.den_get ho ht]
          rw[if_pos (by
            simp only[Bool.and_eq_true,decide_eq_true_eq];refine⟨⟨ha,?_⟩,?_⟩
            · rw[hl,hn,h2]
            · rw[hl,zi];exact h3)]
          congr 3
          simp only[sD,List.map_cons,List.map_nil,ht,SO.den,UH,CZ,Pq,Ps,Gg,← hl]
        · cases h
      · cases h
    · cases h
  · cases h
theorem ac0 {t:TypeId} {l:List AV} {f off:Nat} {ft:TypeId} (hf:Av P t f=some (off,ft)):Cz P t f (vY l)=vv P ft l off:=by
 have hc:=JI l
 unfold vY at hc ⊢
 cases h:tO l with
 | none=>simp only[Cz,hf,tu]
 | some vs =>
  rw[h] at hc
  simp only[Cz,hf]
  rw[hc]
theorem ac1 {t:TypeId} {f:Nat} {x a:SV} (h:Pw P t f x=some a):Cz P t f (x.den s)=some (a.den s):=by
 unfold Pw at h
 split at h
 ·rename_i l
  split at h
  ·rename_i off ft hf
   simp only[SV.den]
   rw[ac0 hf,Ee s h]
  ·cases h
 ·rename_i cs
  split at h
  ·rename_i off ft hf
   have:=Ee s h
   rw[zI] at this
   simp only[SV.den,Cz,hf,tu,Value.cells]
   exact this
  ·cases h
 ·cases h
theorem ac2 {t:TypeId} {f:Nat} {x a:SV} (h:Px P t f x=some a):CB P t f (x.den s)=some (a.den s):=by
 unfold Px at h
 unfold CB
 split at h
 ·rename_i off ft hf
  rw[hf]
  simp only
  split at h
  ·rename_i n hs
   rw[hs]
   simp only
   split at h
   ·rw[tZ] at h;cases h;rfl
   ·rw[tZ] at h;cases h;rfl
   ·cases h
  ·cases h
 ·cases h
theorem ac3 (hf:sQ s fc) {t:TypeId} {H:rf} {x i:SV} (h:(Pz P fc t x i).path Φ s=some r):yK (zg P t H (x.den s) (i.den s))=some (r.1.den s,r.2.1,sD s r.2.2):=by
 unfold Pz at h
 split at h
 ·rename_i k n
  split at h
  ·rename_i b o
   split at h
   ·rename_i len el ha
    split at h
    ·rename_i sz hs
     obtain⟨j,h1,h2,h3⟩:=JJ hf h
     rw[tZ] at h3;cases h3
     simp only[SV.den,zg,ha,hs,h2]
     rw[if_pos ⟨by omega,by omega⟩];rfl
    ·cases h
   ·cases h
  ·rename_i g o
   split at h
   ·rename_i len el ha
    split at h
    ·rename_i sz hs
     obtain⟨j,h1,h2,h3⟩:=JJ hf h
     rw[tZ] at h3;cases h3
     simp only[SV.den,zg,ha,hs,h2]
     rw[if_pos ⟨by omega,by omega⟩];rfl
    ·cases h
   ·cases h
  ·rename_i b o len cap
   split at h
   ·rename_i el ha
    split at h
    ·rename_i sz hs
     obtain⟨j,h1,h2,h3⟩:=JJ hf h
     rw[tZ] at h3;cases h3
     simp only[SV.den,zg,ha,hs,h2]
     rw[if_pos ⟨by omega,by omega⟩];rfl
    ·cases h
   ·cases h
  ·cases h
 ·cases h
theorem ac4 {t:TypeId} {l:List AV} {k:IntKind} {n:Int} {len el sz:Nat} (ha:yl P t=some (len,el)) (hs:tq P el=some sz) (hn:0≤n∧n<len):CE P t (vY l) (.v (.int k n))=vv P el l (n.toNat*sz):=by
 have hc:=JI l
 unfold vY at hc ⊢
 cases h:tO l with
 | none=>simp only[CE,ha,hs,if_pos hn]
 | some vs =>
  rw[h] at hc
  simp only[tu,Value.cells] at hc
  simp only[CE,ha,hs,if_pos hn]
  rw[hc]
theorem ac5 (hf:sQ s fc) {t:TypeId} {x i:SV} (h:(PD P fc t x i).path Φ s=some r):wt (CE P t (x.den s) (i.den s))=some (r.1.den s,r.2.1,sD s r.2.2):=by
 unfold PD at h
 split at h
 ·rename_i k n
  split at h
  ·rename_i l
   split at h
   ·rename_i len el ha
    split at h
    ·rename_i sz hs
     obtain⟨j,h1,h2,h3⟩:=JJ hf h
     obtain⟨a,h4,rfl⟩:=JK h3
     simp only[SV.den]
     rw[ac4 ha hs (by rw[h2];omega),h2,show((j:Int)).toNat=j by simp,Ee s h4];rfl
    ·cases h
   ·cases h
  ·rename_i cs
   split at h
   ·rename_i len el ha
    split at h
    ·rename_i sz hs
     obtain⟨j,h1,h2,h3⟩:=JJ hf h
     obtain⟨a,h4,rfl⟩:=JK h3
     have:=Ee s h4
     rw[zI] at this
     simp only[SV.den,CE,ha,hs,h2]
     rw[if_pos ⟨by omega,by omega⟩,show((j:Int)).toNat=j by simp,this];rfl
    ·cases h
   ·cases h
  ·cases h
 ·cases h
theorem ac6 {x a:SV} {i:Nat} (h:PE x i=some a):FE (x.den s) i=some (a.den s):=by
 unfold PE at h
 split at h
 ·rename_i vs
  split at h
  ·rename_i v hv
   cases h
   simp only[SV.den,FE,hv,Pn]
  ·cases h
 ·rename_i l
  have:=UG s h
  simp only[SV.den]
  unfold xg
  cases hv:tO (SV.dens s l) with
  | none=>exact this
  | some vs =>
   have h2:=Cy (e:=⟨fun _=>0,fun _=>undef⟩) hv
   have h3:SV.dens s l=vs.map .v:=by
    have h4:=JI (SV.dens s l)
    unfold vY at h4;rw[hv] at h4
    simpa [tu,Value.cells] using h4.symm
   rw[h3] at this
   simp only[FE]
   rw[List.getElem?_map] at this
   cases hg:vs[i]? with
   | none=>rw[hg] at this;cases this
   | some v=>rw[hg] at this;simp only[List.getElem?_toArray,List.toList_toArray,hg];exact this
 ·cases h
theorem ac7 {c:X} {w:String} {b:qZ SR} (h:(Ga c (.stuck w) b).path Φ s=some r):c.den s=0∧b.path Φ s=some r:=by
 rw[O7] at h
 split at h
 ·rename_i hc;exact⟨hc,h⟩
 ·cases h
theorem UI {b:Bool} (h:rX b=0):b=false:=by cases b<;>first|rfl|cases h
theorem ac8 {k:IntKind} (hk:k.signed=false) (n:Int):0≤k.wrap n:=by
 unfold IntKind.wrap IntKind.bits;cases k<;>first|(cases hk;done)|(simp[IntKind.signed];omega)
theorem UJ (hf:sQ s fc) {w:String} {c:X} {t:qZ SR} (h:(C8 fc w c t).path Φ s=some r):c.den s=0∧t.path Φ s=some r:=by
 unfold C8 at h
 split at h
 ·cases h
 ·rename_i hd
  have:=xU hf hd
  exact⟨by simpa using this,h⟩
 ·exact ac7 h
theorem ac9 (hf:sQ s fc) {t:TypeId} {op:BinOp} {k k':IntKind} {a b:X} (h:(PI fc op k k' a b).path Φ s=some r):∃ v,vZ P op t (.int k (a.den s)) (.int k' (b.den s))=some v ∧ .v v=r.1.den s∧r.2=([],[]):=by
 have ar:∀ {op':BinOp},(uw (uo op' k a b) fun x=>one (.int k x)).path Φ s=some r→AV.v (.int k (rM op' k (a.den s) (b.den s)))=r.1.den s∧r.2=([],[]):=fun h=>by
  have h:=zK (zk h);subst h
  exact⟨by simp only[SV.den,CS],rfl⟩
 have cm:∀ {op':BinOp},(uw (uo op' k a b) fun x=>one (.bool x)).path Φ s=some r→AV.v (.bool (rM op' k (a.den s) (b.den s) != 0))=r.1.den s∧r.2=([],[]):=fun h=>by
  have h:=zK (zk h);subst h
  exact⟨by simp only[SV.den,CS],rfl⟩
 have nn:∀ {op':BinOp},(match X.inK k' b,k'.signed with
   | true,false=>uw (uo op' k a b) fun x=>one (.int k x)
   | _,_=>C8 fc "shift below 0" (uo .lss k' b (.lit (.ofNat 0))) (uw (uo op' k a b) fun x=>one (.int k x))).path Φ s=some r →
   ¬ b.den s<0∧(uw (uo op' k a b) fun x=>one (.int k x)).path Φ s=some r:=fun h=>by
  split at h
  ·rename_i h1 h2
   refine⟨?_,h⟩
   rw[← X.inK_ok s h1];have:=ac8 h2 (b.den s);omega
  ·obtain⟨h1,h2⟩:=UJ hf h
   refine⟨?_,h2⟩
   rw[CS] at h1
   have:=UI h1
   intro hc
   simp only[decide_eq_false_iff_not] at this
   exact this hc
 have nz:∀ {op':BinOp},(C8 fc "by 0" (uo .eql k' b (.lit (.ofNat 0))) (uw (uo op' k a b) fun x=>one (.int k x))).path Φ s=some r →
   b.den s≠0∧(uw (uo op' k a b) fun x=>one (.int k x)).path Φ s=some r:=fun h=>by
  obtain⟨h1,h2⟩:=UJ hf h
  refine⟨?_,h2⟩
  rw[CS] at h1
  have:=UI h1
  intro hc;rw[hc] at this;cases this
 cases op<;>simp only[PI] at h
 case shl =>
  obtain⟨h1,h2⟩:=nn h
  exact⟨_,by simp only[vZ,if_neg h1];rfl,ar h2⟩
 case shr =>
  obtain⟨h1,h2⟩:=nn h
  exact⟨_,by simp only[vZ,if_neg h1];rfl,ar h2⟩
 case quo =>
  split at h
  ·rename_i hk
   have hk:=xk hk
   obtain⟨h1,h2⟩:=nz h
   exact⟨_,by simp only[vZ,if_pos (And.intro hk h1)];rfl,ar h2⟩
  ·cases h
 case rem =>
  split at h
  ·rename_i hk
   have hk:=xk hk
   obtain⟨h1,h2⟩:=nz h
   exact⟨_,by simp only[vZ,if_pos (And.intro hk h1)];rfl,ar h2⟩
  ·cases h
 all_goals
  split at h
  ·rename_i hk
   have hk:=xk hk
   first
    | exact⟨_,by simp only[vZ,if_pos hk,rM,Um],ar h⟩
    | exact⟨_,by simp only[vZ,if_pos hk,rM,ut],cm h⟩
  ·cases h
theorem ada (hSE:Mj P SE E) (hf:sQ s fc) {t:TypeId} {op:BinOp} {x y:SV} (h:(PK P SE fc op t x y).path Φ s=some r):wt (CG P E op t (x.den s) (y.den s))=some (r.1.den s,r.2.1,sD s r.2.2):=by
 unfold PK at h
 split at h
 ·rename_i k a k' b
  obtain⟨v,h1,h2,h3⟩:=ac9 (P:=P) hf (t:=t) h
  simp only[SV.den,CG,h1,wt,h2,h3];rfl
 ·rename_i a b
  split at h
  ·rename_i hu
   split at h
   ·have h:=zK (zk h);subst h
    simp only[SV.den,CG,vZ,hu,wt,Uu,ut];rfl
   ·have h:=zK (zk h);subst h
    simp only[SV.den,CG,vZ,hu,wt,O4,Uu,ut];rfl
   ·cases h
  ·cases h
 ·rename_i hi hb
  have key:∀ u,SE t x y=some u→∃ a b,x.den s = .v a∧y.den s = .v b∧vZ P .eql t a b=none∧vZ P .neq t a b=none∧E .eql t a b=some (.bool (u.den s != 0))∧E .neq t a b=some (.bool (!(u.den s != 0))):=fun u hu=>hSE t x y u s hu
  split at h
  ·split at h
   ·rename_i u hu
    have h:=zK (zk h);subst h
    obtain⟨a,b,h1,h2,p1,p2,h3,h4⟩:=key u hu
    simp only[h1,h2,CG,p1,h3,wt,SV.den];rfl
   ·cases h
  ·split at h
   ·rename_i u hu
    have h:=zK (zk h);subst h
    obtain⟨a,b,h1,h2,p1,p2,h3,h4⟩:=key u hu
    simp only[h1,h2,CG,p2,h4,wt,SV.den,O4,ut];rfl
   ·cases h
  ·cases h
theorem adb {op:UnOp} {x:SV} (h:(PL op x).path Φ s=some r):wt (FI op (x.den s))=some (r.1.den s,r.2.1,sD s r.2.2):=by
 unfold PL at h
 split at h
 ·have h:=zK (zk h);subst h
  simp only[SV.den,FI,wt,CS,rM];rfl
 ·have h:=zK (zk h);subst h
  simp only[SV.den,FI,wt,Ut,JD,Um];rfl
 ·have h:=zK (zk h);subst h
  simp only[SV.den,FI,wt,O4,ut];rfl
 ·cases h
theorem adc {src dst:TypeId} {x:SV} (h:(PM P src dst x).path Φ s=some r):wt (Lx P src dst (x.den s))=some (r.1.den s,r.2.1,sD s r.2.2):=by
 unfold PM at h
 split at h
 ·split at h
  ·rename_i k d hk hd
   have h:=zK (zk h);subst h
   simp only[SV.den,Lx,hk,hd,wt,acK];rfl
  ·cases h
 ·cases h
theorem ade (f:FuncId) (a c:List AV):LA (xh (.func f) a c)=some (xh (.func f) a c):=by unfold xh;split<;>rfl
theorem adf {x:SV} (h:(PN x).path Φ s=some r):wt (LA (x.den s))=some (r.1.den s,r.2.1,sD s r.2.2):=by
 unfold PN at h
 split at h
 ·cases h;rfl
 ·cases h;rfl
 ·cases h;rfl
 ·cases h;simp only[SV.den,ade,wt];rfl
 ·cases h
theorem adg {t:TypeId} {H:SH} {x:SV} (h:(sLen P t H x).path Φ s=some r):yK (yn P t (SH.den s H) (x.den s))=some (r.1.den s,r.2.1,sD s r.2.2):=by
 unfold sLen at h
 split at h
 ·rename_i el hu
  split at h
  ·rename_i k
   split at h
   ·rename_i kd x hk
    cases h;simp only[SV.den,yn,hu,SH.den_nat hk rfl rfl rfl];rfl
   ·rename_i c _ hk
    split at h
    ·rename_i ro hm ho
     have h:=zk h
     cases h
     simp only[SV.den,yn,hu,SH.den_ora hk rfl hm ho,yK,Uv,X.den]
     have e:((ro.n.den s).toNat:Int)=if Int.ofNat 0>ro.n.den s then Int.ofNat 0 else ro.n.den s:=by
      show _=if (0:Int)>ro.n.den s then(0:Int) else ro.n.den s
      split<;>omega
     rw[e];rfl
    ·cases h
   ·cases h
  ·cases h;simp only[SV.den,yn,hu];rfl
  ·cases h;simp only[SV.den,yn,hu];rfl
  ·cases h
 ·rename_i hu
  split at h
  ·rw[tZ] at h;cases h;simp only[SV.den,yn,hu];rfl
  ·cases h
 ·rename_i n el hu
  cases h;simp only[yn,hu];rfl
 ·cases h
theorem adh {t:TypeId} {H:rf} {x:SV} (h:(PO P t x).path Φ s=some r):yK (Bv P t H (x.den s))=some (r.1.den s,r.2.1,sD s r.2.2):=by
 unfold PO at h
 split at h
 ·rename_i n el ha
  split at h
  ·split at h
   ·rename_i hb
    cases h
    simp only[SV.den,Bv,ha,if_pos (Nat.le_of_ble_eq_true hb)];rfl
   ·cases h
  ·cases h
 ·cases h
theorem adi {t:TypeId} {k:Nat} {x y:SV} (h:(PP P t k x y).path Φ s=some r):FK P t k (x.den s) (y.den s)=some (r.1.den s,r.2.1,sD s r.2.2):=by
 unfold PP at h
 split at h
 ·rename_i k1 n k2 m
  split at h
  ·rename_i el hel
   split at h
   ·rename_i sz z b hs hz hb
    split at h
    ·rename_i h1 h2 h3 h4
     rw[DY] at h
     cases h
     have h1:=Nat.le_of_ble_eq_true h1
     have h2:m<16777216:=by simpa [Nat.blt_eq] using h2
     have h3:=Nat.le_of_ble_eq_true h3
     have h4:m*sz≠0:=fun e=>by rw[e] at h4;cases h4
     simp only[SV.den,X.den,FK,hel,hs,hz,hb,Int.ofNat_eq_natCast]
     rw[if_pos ⟨by omega,by omega,by omega,h3,by simpa using h4⟩]
     simp only[sD,List.map_cons,List.map_nil,SO.den,zI,Int.ofNat_eq_natCast,Int.toNat_natCast]
    ·cases h
   ·cases h
  ·cases h
 ·cases h
theorem adj {t:TypeId} {x:SV} (h:(PQ P t x).path Φ s=some r):wt (Jp P t (x.den s))=some (r.1.den s,r.2.1,sD s r.2.2):=by
 unfold PQ at h
 split at h
 ·rename_i n el ha
  split at h
  ·rename_i b o sz hs
   cases h;simp only[SV.den,Jp,ha,hs];rfl
  ·cases h
 ·cases h
theorem adk {t:TypeId} {len k:Nat} {ps:List (Nat×SV)} (h:(PR P t len k ps).path Φ s=some r):FJ P t len k (Mh s ps)=some (r.1.den s,r.2.1,sD s r.2.2):=by
 unfold PR at h
 split at h
 ·rename_i el hel
  split at h
  ·rename_i sz z hs hz
   split at h
   ·rename_i h1 h2
    split at h
    ·rename_i c hc
     cases h
     have h1:=Nat.le_of_ble_eq_true h1
     have h2:len*sz≠0:=fun e=>by rw[e] at h2;cases h2
     have h3:=PG s hc
     rw[zI] at h3
     simp only[FJ,hel,hs,hz,h3]
     rw[if_pos ⟨h1,h2⟩];rfl
    ·cases h
   ·cases h
  ·cases h
 ·cases h
theorem adl (hSE:Mj P SE E) (hf:sQ s fc) {op:Op} {ρ:Operand→Option SV} {ρ':Operand→Option AV} (hρ:RD s ρ ρ') {H:SH} {k:Nat} (h:(PS P G SE fc op ρ H k).path Φ s=some r) :
  rR P G E op ρ' (SH.den s H) k=some (r.1.den s,r.2.1,sD s r.2.2):=by
 unfold PS at h
 split at h
 ·obtain⟨a,ha,h⟩:=xV h;cases h;simp only[rR,hρ _ _ ha,wt];rfl
 ·obtain⟨a,ha,h⟩:=xV h;cases h;simp only[rR,hρ _ _ ha,wt];rfl
 ·obtain⟨v,hv,h⟩:=xV h
  split at h
  ·rename_i q
   rw[O7] at h
   have hq:=hρ _ _ hv
   split at h
   ·rename_i hc
    obtain⟨a,ha,h⟩:=xV h;cases h
    simp only[rR,hq,SV.den,hc,bne_self_eq_false,Bool.false_eq_true,if_false,hρ _ _ ha,wt];rfl
   ·rename_i hc
    obtain⟨a,ha,h⟩:=xV h;cases h
    have:(q.den s != 0)=true:=by simpa using hc
    simp only[rR,hq,SV.den,this,if_true,hρ _ _ ha,wt];rfl
  ·cases h
 ·split at h
  ·rename_i z hz
   rw[DY] at h
   cases h;simp only[rR,hz,SV.den,sD,List.map_cons,List.map_nil,SO.den,zI]
  ·cases h
 ·obtain⟨a,ha,h⟩:=xV h
  rw[DY] at h
  cases h;simp only[rR,hρ _ _ ha,SV.den,sD,List.map_cons,List.map_nil,SO.den,Gg]
 ·split at h
  ·rename_i l z hl hz
   split at h
   ·rename_i hs
    split at h
    ·rename_i c hc
     cases h
     have h3:=PG s hc
     rw[zI] at h3
     simp only[rR,PH hρ hl,hz,hs,if_true,h3,SV.den];rfl
    ·cases h
   ·cases h
  ·cases h
 ·split at h
  ·rename_i l hl
   simp only[rR,PH hρ hl];exact adk h
  ·cases h
 ·obtain⟨a,ha,h⟩:=xV h;simp only[rR,hρ _ _ ha];exact acY h
 ·obtain⟨a,b,ha,hb,h⟩:=Eh h;simp only[rR,hρ _ _ ha,hρ _ _ hb];exact acZ h
 ·obtain⟨a,ha,h⟩:=xV h;simp only[rR,hρ _ _ ha];exact adf h
 ·obtain⟨a,b,ha,hb,h⟩:=Eh h;simp only[rR,hρ _ _ ha,hρ _ _ hb];exact ada hSE hf h
 ·obtain⟨a,ha,h⟩:=xV h;simp only[rR,hρ _ _ ha];exact adb h
 ·obtain⟨a,ha,h⟩:=xV h;simp only[rR,hρ _ _ ha];exact adc h
 ·split at h
  ·rename_i x y hx hy
   cases h;simp only[rR,Mi hρ hx,Mi hρ hy,SV.den];rfl
  ·cases h
 ·obtain⟨a,ha,h⟩:=xV h
  obtain⟨b,hb,rfl⟩:=JK h
  simp only[rR,hρ _ _ ha,ac2 hb,wt];rfl
 ·obtain⟨a,ha,h⟩:=xV h
  obtain⟨b,hb,rfl⟩:=JK h
  simp only[rR,hρ _ _ ha,ac1 hb,wt];rfl
 ·obtain⟨a,b,ha,hb,h⟩:=Eh h;simp only[rR,hρ _ _ ha,hρ _ _ hb];exact ac3 hf h
 ·obtain⟨a,b,ha,hb,h⟩:=Eh h;simp only[rR,hρ _ _ ha,hρ _ _ hb];exact ac5 hf h
 ·obtain⟨a,ha,h⟩:=xV h
  obtain⟨b,hb,rfl⟩:=JK h
  simp only[rR,hρ _ _ ha,ac6 hb,wt];rfl
 ·split at h
  ·rename_i x t hx ht
   obtain⟨a,ha,h⟩:=xV h
   simp only[rR,hx,ht,hρ _ _ ha];exact adg h
  ·cases h
 ·split at h
  ·rename_i x y hx
   obtain⟨a,b,ha,hb,h⟩:=Eh h
   split at h
   ·have h:=zK (zk h);subst h
    simp only[rR,hx,hρ _ _ ha,hρ _ _ hb,SV.den,acM];rfl
   ·cases h
  ·cases h
 ·split at h
  ·rename_i x y hx
   obtain⟨a,b,ha,hb,h⟩:=Eh h
   split at h
   ·have h:=zK (zk h);subst h
    simp only[rR,hx,hρ _ _ ha,hρ _ _ hb,SV.den,Uv];rfl
   ·cases h
  ·cases h
 ·obtain⟨a,ha,h⟩:=xV h;simp only[rR,hρ _ _ ha];exact adh h
 ·obtain⟨a,b,ha,hb,h⟩:=Eh h;simp only[rR,hρ _ _ ha,hρ _ _ hb];exact adi h
 ·obtain⟨a,ha,h⟩:=xV h;simp only[rR,hρ _ _ ha];exact adj h
 ·cases h
end
open Go.RowKit
mutual
def AV.ren (f:Nat→Nat):AV→AV
 | .v x=>.v x
 | .loc b off=>.loc (f b) off
 | .sl b off len cap=>.sl (f b) off len cap
 | .hd k=>.hd (f k)
 | .ha k off=>.ha (f k) off
 | .fn g a c=>.fn g (AV.rens f a) (AV.rens f c)
 | .tup l=>.tup (AV.rens f l)
 | .agg l=>.agg (AV.rens f l)
def AV.rens (f:Nat→Nat):List AV→List AV
 | []=>[]
 | x::l=>AV.ren f x::AV.rens f l
end
def AO.ren (f:Nat→Nat):AO→AO
 | .own c t=>.own (AV.rens f c) t
 | .rd n c=>.rd n c
 | .mp es=>.mp es
def UK (f:Nat→Nat) (e e':Env) (l:List Nat):Prop:=∀ r∈l,e'.blk (f r)=e.blk r∧e'.hnd (f r)=e.hnd r
mutual
theorem AV.ren_val {f:Nat→Nat} {e e':Env} : ∀ x:AV,UK f e e' x.refs→(x.ren f).val e'=x.val e
 | .v _,_=>rfl
 | .loc b off,h=>by simp only[AV.ren,AV.val];rw[(h b (by simp[AV.refs])).1]
 | .sl b off len cap,h=>by simp only[AV.ren,AV.val];rw[(h b (by simp[AV.refs])).1]
 | .hd k,h=>by simp only[AV.ren,AV.val];rw[(h k (by simp[AV.refs])).2]
 | .ha k off,h=>by simp only[AV.ren,AV.val];rw[(h k (by simp[AV.refs])).2]
 | .fn g a c,h=>by
  simp only[AV.ren,AV.val]
  rw[AV.rens_val a (fun r hr=>h r (by rw[AV.refs];exact List.mem_append_left _ hr)),AV.rens_val c (fun r hr=>h r (by rw[AV.refs];exact List.mem_append_right _ hr))]
 | .tup l,h=>by simp only[AV.ren,AV.val];rw[AV.rens_val l (fun r hr=>h r (by rw[AV.refs];exact hr))]
 | .agg l,h=>by simp only[AV.ren,AV.val];rw[AV.rens_val l (fun r hr=>h r (by rw[AV.refs];exact hr))]
theorem AV.rens_val {f:Nat→Nat} {e e':Env} : ∀ l:List AV,UK f e e' (AV.refss l)→AV.vals e' (AV.rens f l)=AV.vals e l
 | [],_=>rfl
 | x::l,h=>by
  rw[AV.rens,AV.vals,AV.vals,AV.ren_val x (fun r hr=>h r (by rw[AV.refss];exact List.mem_append_left _ hr)),AV.rens_val l (fun r hr=>h r (by rw[AV.refss];exact List.mem_append_right _ hr))]
end
mutual
theorem AV.ren_refs {f:Nat→Nat} : ∀ (x:AV) {r:Nat},r∈(x.ren f).refs→∃ q∈x.refs,r=f q
 | .v _,r,h=>by simp[AV.ren,AV.refs] at h
 | .loc b off,r,h=>by simp[AV.ren,AV.refs] at h;exact⟨b,by simp[AV.refs],h⟩
 | .sl b off len cap,r,h=>by simp[AV.ren,AV.refs] at h;exact⟨b,by simp[AV.refs],h⟩
 | .hd k,r,h=>by simp[AV.ren,AV.refs] at h;exact⟨k,by simp[AV.refs],h⟩
 | .ha k off,r,h=>by simp[AV.ren,AV.refs] at h;exact⟨k,by simp[AV.refs],h⟩
 | .fn g a c,r,h=>by
  simp only[AV.ren,AV.refs,List.mem_append] at h
  rcases h with h|h
  ·obtain⟨q,hq,e⟩:=AV.rens_refs a h;exact⟨q,by rw[AV.refs];exact List.mem_append_left _ hq,e⟩
  ·obtain⟨q,hq,e⟩:=AV.rens_refs c h;exact⟨q,by rw[AV.refs];exact List.mem_append_right _ hq,e⟩
 | .tup l,r,h=>by
  simp only[AV.ren,AV.refs] at h
  obtain⟨q,hq,e⟩:=AV.rens_refs l h;exact⟨q,by rw[AV.refs];exact hq,e⟩
 | .agg l,r,h=>by
  simp only[AV.ren,AV.refs] at h
  obtain⟨q,hq,e⟩:=AV.rens_refs l h;exact⟨q,by rw[AV.refs];exact hq,e⟩
theorem AV.rens_refs {f:Nat→Nat} : ∀ (l:List AV) {r:Nat},r∈AV.refss (AV.rens f l)→∃ q∈AV.refss l,r=f q
 | [],r,h=>by simp[AV.rens,AV.refss] at h
 | x::l,r,h=>by
  simp only[AV.rens,AV.refss,List.mem_append] at h
  rcases h with h|h
  ·obtain⟨q,hq,e⟩:=AV.ren_refs x h;exact⟨q,by rw[AV.refss];exact List.mem_append_left _ hq,e⟩
  ·obtain⟨q,hq,e⟩:=AV.rens_refs l h;exact⟨q,by rw[AV.refss];exact List.mem_append_right _ hq,e⟩
end
def vI (src:Nat→Option Nat) (e e2:Env):Env:=⟨fun j=>match src j with|some n=>e2.blk n|none=>e.blk j,fun j=>match src j with|some n=>e2.hnd n|none=>e.hnd j⟩
theorem zL {src:Nat→Option Nat} {e e2:Env} {j n:Nat} (h:src j=some n):(vI src e e2).blk j=e2.blk n∧(vI src e e2).hnd j=e2.hnd n:=by
 unfold vI;simp only[h];exact⟨trivial,trivial⟩
theorem zl {src:Nat→Option Nat} {e e2:Env} {j:Nat} (h:src j=none):(vI src e e2).blk j=e.blk j∧(vI src e e2).hnd j=e.hnd j:=by
 unfold vI;simp only[h];exact⟨trivial,trivial⟩
theorem adm {G:rJ} {w0:World} {B0:sw} {e:Env} {H':rf} {w:World} (R:rQ G w0 B0 e H' w) {keys:List Nat} {B:sw} (hBd:B.dom=keys) (hBb:∀ b∈B.blks,∃ j∈keys,b=e.blk j) (hBe:B.env=e)
  {e2:Env} {Hc:rf} {w':World} (R2:rQ G w B e2 Hc w') (hown:∀ j∈keys,∃ c t,H' j=some (.own c t)) {src:Nat→Option Nat} {f:Nat→Nat}
  (h1:∀ j n,src j=some n→f n=j∧∃ c t,Hc n=some (.own c t)∧∀ r∈AV.refss c,src (f r)=some r)
  (h2:∀ j∈keys,src j=some j) (h3:∀ j,j∉keys→src j≠none→H' j=none) {Hn:rf} (hn:∀ j,Hn j=match src j with|some n=>(Hc n).map (AO.ren f)|none=>H' j) :
  rQ G w0 B0 (vI src e e2) Hn w'∧Env.on H' e (vI src e e2)∧∀ j,H' j≠none→Hn j≠none:=by
 have hK:∀ j∈keys,e2.blk j=e.blk j∧e2.hnd j=e.hnd j:=fun j hj=>by
  have:=(R2.env j (by rw[hBd];exact hj)).2;rw[hBe] at this;exact this
 have hon:Env.on H' e (vI src e e2):=by
  intro j hj
  cases hs:src j with
  | none=>exact zl hs
  | some n =>
   rw[(zL hs).1,(zL hs).2]
   by_cases hm:j∈keys
   ·have:=h2 j hm;rw[hs] at this;cases this;exact hK j hm
   ·exact absurd (h3 j hm (by rw[hs];simp)) hj
 have hdom:∀ j,H' j≠none→Hn j≠none:=by
  intro j hj
  rw[hn]
  cases hs:src j with
  | none=>exact hj
  | some n =>
   obtain⟨_,c,t,hc,_⟩:=h1 j n hs
   simp[hc]
 have hbk:∀ n j,src j=some n→e2.blk n<w.heap.size→∃ i∈keys,e2.blk n=e.blk i:=by
  intro n j hs hlt
  obtain⟨_,c,t,hc,_⟩:=h1 j n hs
  rcases R2.ge n c t hc with hg|hg
  ·omega
  ·exact hBb _ hg
 have hold:∀ b,b<w.heap.size→(∀ i∈keys,b≠e.blk i)→w'.heap[b]? = w.heap[b]?:=fun b hb hne=>R2.old b hb (fun hm=>by
  obtain⟨i,hi,rfl⟩:=hBb b hm;exact hne i hi rfl)
 have hnone:∀ j o,Hn j=some o→src j=none→H' j=some o:=fun j o hj hs=>by rw[hn,hs] at hj;exact hj
 have hsome:∀ j n o,Hn j=some o→src j=some n→∃ c t,Hc n=some (.own c t)∧o = .own (AV.rens f c) t∧∀ r∈AV.refss c,src (f r)=some r:=fun j n o hj hs=>by
  obtain⟨_,c,t,hc,hr⟩:=h1 j n hs
  rw[hn,hs] at hj
  simp only[hc,Option.map_some,AO.ren,Option.some.injEq] at hj
  exact⟨c,t,hc,hj.symm,hr⟩
 refine⟨⟨R2.os.trans R.os,R2.tape.trans R.tape,R2.output.trans R.output,Nat.le_trans R.size R2.size,?_,R2.gl,?_,?_,?_,?_,?_,?_,?_,?_,fun j n l hj b hv=>by
  cases hs:src j with
  | some m=>obtain⟨c0,t0,hc,ho,hr⟩:=hsome j m _ hj hs;cases ho
  | none=>rw[(zl hs).2] at hv;exact R.new j n l (hnone j _ hj hs) b hv,fun j es hj=>by
  cases hs:src j with
  | some m=>obtain⟨c0,t0,hc,ho,hr⟩:=hsome j m _ hj hs;cases ho
  | none =>
   have h0:=hnone j _ hj hs
   obtain⟨m1,m2⟩:=R.mp j es h0
   rw[(zl hs).2]
   refine⟨m1.same (fun b hv hb=>hold b hb (fun i hi he=>?_)),fun j' c t hj' hv=>?_⟩
   ·obtain⟨c',t',hi'⟩:=hown i hi
    exact m2 i c' t' hi' (by rw[hv,he])
   ·cases hs':src j' with
    | none =>
     rw[(zl hs').1] at hv
     exact m2 j' c t (hnone j' _ hj' hs') hv
    | some m =>
     rw[(zL hs').1] at hv
     obtain⟨i,hi,he⟩:=hbk m j' hs' (m1.lt hv)
     obtain⟨c',t',hi'⟩:=hown i hi
     exact m2 i c' t' hi' (by rw[hv,he])⟩,hon,hdom⟩
 ·intro b hb hb0
  rw[← R.old b hb hb0]
  refine hold b (Nat.lt_of_lt_of_le hb R.size) (fun i hi he=>?_)
  obtain⟨c,t,hc⟩:=hown i hi
  rcases R.ge i c t hc with hg|hg
  ·omega
  ·rw[he] at hb0;exact hb0 hg
 ·intro j c t hj
  cases hs:src j with
  | some n =>
   obtain⟨c0,t0,hc,ho,hr⟩:=hsome j n _ hj hs
   cases ho
   rw[(zL hs).1,AV.rens_val c0 (fun r hrm=>zL (hr r hrm))]
   exact R2.own n c0 t hc
  | none =>
   have h0:=hnone j _ hj hs
   rw[(zl hs).1,AV.vals_on hon c (fun r hr=>R.refs j _ h0 r hr),hold (e.blk j) (R.lt h0) (fun i hi he=>?_)]
   ·exact R.own j c t h0
   ·obtain⟨c',t',hi'⟩:=hown i hi
    have:=R.inj j c t i c' t' h0 hi' he
    rw[this,h2 i hi] at hs;cases hs
 ·intro j c t hj
  cases hs:src j with
  | some n =>
   obtain⟨c0,t0,hc,ho,hr⟩:=hsome j n _ hj hs
   rw[(zL hs).1]
   rcases R2.ge n c0 t0 hc with hg|hg
   ·exact .inl (Nat.le_trans R.size hg)
   ·obtain⟨i,hi,he⟩:=hBb _ hg
    obtain⟨c',t',hi'⟩:=hown i hi
    rw[he];exact R.ge i c' t' hi'
  | none=>rw[(zl hs).1];exact R.ge j c t (hnone j _ hj hs)
 ·intro j c t hj x hx
  cases hs:src j with
  | some n =>
   obtain⟨c0,t0,hc,ho,hr⟩:=hsome j n _ hj hs
   rw[(zL hs).1];exact R2.glo n c0 t0 hc x hx
  | none=>rw[(zl hs).1];exact R.glo j c t (hnone j _ hj hs) x hx
 ·have mix:∀ j n j',src j=some n→src j'=none→(∃ c t,H' j'=some (.own c t))→e2.blk n≠e.blk j':=by
   intro j n j' hs hs' ⟨c,t,hj'⟩ he
   obtain⟨i,hi,h⟩:=hbk n j hs (by rw[he];exact R.lt hj')
   obtain⟨c',t',hi'⟩:=hown i hi
   have:=R.inj i c' t' j' c t hi' hj' (by rw[← h,he])
   rw[← this,h2 i hi] at hs';cases hs'
  intro j c t j' c' t' hj hj' he
  cases hs:src j with
  | some n =>
   obtain⟨c0,t0,hc,ho,hr⟩:=hsome j n _ hj hs
   rw[(zL hs).1] at he
   cases hs':src j' with
   | some n' =>
    obtain⟨c0',t0',hc',ho',hr'⟩:=hsome j' n' _ hj' hs'
    rw[(zL hs').1] at he
    have:=R2.inj n c0 t0 n' c0' t0' hc hc' he
    rw[← (h1 j n hs).1,← (h1 j' n' hs').1,this]
   | none =>
    rw[(zl hs').1] at he
    exact absurd he (mix j n j' hs hs' ⟨c',t',hnone j' _ hj' hs'⟩)
  | none =>
   rw[(zl hs).1] at he
   cases hs':src j' with
   | some n' =>
    rw[(zL hs').1] at he
    exact absurd he.symm (mix j' n' j hs' hs ⟨c,t,hnone j _ hj hs⟩)
   | none =>
    rw[(zl hs').1] at he
    exact R.inj j c t j' c' t' (hnone j _ hj hs) (hnone j' _ hj' hs') he
 ·intro j n l hj
  cases hs:src j with
  | some m=>obtain⟨c0,t0,hc,ho,hr⟩:=hsome j m _ hj hs;cases ho
  | none =>
   have h0:=hnone j _ hj hs
   rw[(zl hs).2]
   refine(R.rd j n l h0).same R2.size (fun b hv hb=>hold b hb (fun i hi he=>?_))
   obtain⟨c',t',hi'⟩:=hown i hi
   exact R.apart j n l i c' t' h0 hi' (by rw[hv,he])
 ·intro j n l j' c t hj hj' hv
  cases hs:src j with
  | some m=>obtain⟨c0,t0,hc,ho,hr⟩:=hsome j m _ hj hs;cases ho
  | none =>
   have h0:=hnone j _ hj hs
   rw[(zl hs).2] at hv
   cases hs':src j' with
   | none =>
    rw[(zl hs').1] at hv
    exact R.apart j n l j' c t h0 (hnone j' _ hj' hs') hv
   | some m =>
    rw[(zL hs').1] at hv
    obtain⟨i,hi,he⟩:=hbk m j' hs' ((R.rd j n l h0).lt hv)
    obtain⟨c',t',hi'⟩:=hown i hi
    exact R.apart j n l i c' t' h0 hi' (by rw[hv,he])
 ·intro j o hj r hr
  cases hs:src j with
  | some n =>
   obtain⟨c0,t0,hc,ho,hrf⟩:=hsome j n _ hj hs
   subst ho
   obtain⟨q,hq,rfl⟩:=AV.rens_refs c0 hr
   have hsq:=hrf q hq
   obtain⟨_,c,t,hc',_⟩:=h1 _ _ hsq
   rw[hn,hsq];simp[hc']
  | none=>exact hdom r (R.refs j o (hnone j _ hj hs) r hr)
 ·intro j hj
  obtain⟨h0,hb⟩:=R.env j hj
  exact⟨hdom j h0,by rw[(hon j h0).1];exact hb.1,by rw[(hon j h0).2];exact hb.2⟩
theorem adn {P : Program} {G : rJ} (E : sV) {w0 : World} {B0 : sw} {g : FuncId} {fn : Func} {c : Code} {args : List AV} {H H1 Hc : rf} {k : Nat} {r : AV} {ef : List (Nat × AO)} (keys : List Nat) (N1 : Nat) (src : Nat → Option Nat) (f : Nat → Nat)
    (hf : P.funcs[g]? = some fn) (hb : fn.body = some c) (hn : (fn.name == "runtime.NumGoroutine") = false) (hl : (Nat.ble args.length fn.ntmps) = true)
    (hH1 : ∀ j o, H1 j = some o → j ∈ keys) (hH1' : ∀ j ∈ keys, H1 j = H j ∧ (∃ c t, H j = some (.own c t)) ∧ j < N1) (hcl : ∀ j c t, H1 j = some (.own c t) → ∀ r ∈ AV.refss c, r ∈ keys) (href : ∀ x ∈ args, ∀ j ∈ x.refs, j ∈ keys)
    (h1 : ∀ j n, src j = some n → f n = j ∧ ∃ c t, Hc n = some (.own c t) ∧ ∀ r ∈ AV.refss c, src (f r) = some r)
    (h2 : ∀ j ∈ keys, src j = some j) (h3 : ∀ j n, src j = some n → j ∈ keys ∨ j = k ∨ j = k + 1) (hr : ∀ j ∈ r.refs, src (f j) = some j)
    (hef : ∀ H' : rf, (∀ b ∈ keys, H' b = H b) → ∀ j, (H'.puts ef) j = match src j with | some n => (Hc n).map (AO.ren f) | none => H' j)
    (h : ∀ w1 B, AW ⟨P, G, E, w1, B, fn.ntmps⟩ c (OU P G fn (fun r' Hx => r' = r ∧ Hx = Hc)) N1 (BB args fn.ntmps) H1) :
    DR P G w0 B0 g args H keys k (r.ren f) ef := by
  intro H' e w hag hk0 hk1 hrefs R
  have hkeys : ∀ j ∈ keys, ∃ c t, H' j = some (.own c t) := fun j hj => by rw [hag j hj]; exact (hH1' j hj).2.1
  have hsub : ∀ j o, H1 j = some o → H' j = some o := fun j o hj => by have hm := hH1 j o hj; rw [hag j hm, ← (hH1' j hm).1]; exact hj
  let B : sw := ⟨keys.map e.blk, keys, e⟩
  have R1 : rQ G w B e H1 w := by
    refine ⟨rfl, rfl, rfl, Nat.le_refl _, fun _ _ _ => rfl, R.gl, fun j c t hj => R.own j c t (hsub _ _ hj), fun j c t hj => .inr (List.mem_map.2 ⟨j, hH1 j _ hj, rfl⟩), fun j c t hj => R.glo j c t (hsub _ _ hj),
      fun j c t j' c' t' hj hj' => R.inj j c t j' c' t' (hsub _ _ hj) (hsub _ _ hj'), fun j n l hj => R.rd j n l (hsub _ _ hj), fun j n l j' c t hj hj' => R.apart j n l j' c t (hsub _ _ hj) (hsub _ _ hj'), ?_, ?_, fun j n l hj b hv => .inr ⟨j, hH1 j _ hj, hv⟩, fun j es hj => ⟨(R.mp j es (hsub _ _ hj)).1, fun j' c t hj' => (R.mp j es (hsub _ _ hj)).2 j' c t (hsub _ _ hj')⟩⟩
    · intro j o hj i hi
      obtain ⟨hj1, ⟨c, t, hc⟩, _⟩ := hH1' j (hH1 j o hj)
      rw [← hj1, hj] at hc
      cases hc
      have hm := hcl j c t hj i hi
      obtain ⟨h5, ⟨c', t', hc'⟩, _⟩ := hH1' i hm
      rw [h5, hc']; simp
    · intro j hj
      obtain ⟨h5, ⟨c', t', hc'⟩, _⟩ := hH1' j hj
      exact ⟨by rw [h5, hc']; simp, rfl, rfl⟩
  have hB1 : yL H1 N1 := by
    intro b hb
    cases hv : H1 b with
    | none => rfl
    | some o => have := (hH1' b (hH1 b o hv)).2.2; omega
  have hcall := OV (E := E) hf hb (by simpa using hl) R1 hB1 (fun x hx j hj => by
    obtain ⟨h5, ⟨c', t', hc'⟩, _⟩ := hH1' j (href x hx j hj); rw [h5, hc']; simp) (h w B)
  refine CP hf hn (by rw [hb]; rfl) (hcall.mono ?_)
  rintro en w' ⟨r', e2, Hx, rfl, ⟨rfl, rfl⟩, R2⟩
  have hput := hef H' hag
  obtain ⟨R3, hon, hdom⟩ := adm R (keys := keys) (B := B) rfl (fun b hb => by obtain ⟨j, hj, rfl⟩ := List.mem_map.1 hb; exact ⟨j, hj, rfl⟩) rfl R2 hkeys h1 h2 (fun j hj hs => by
    cases hsj : src j with
    | none => exact absurd hsj hs
    | some n => rcases h3 j n hsj with h6 | h6 | h6
                · exact absurd h6 hj
                · rw [h6]; exact hk0
                · rw [h6]; exact hk1) hput
  refine ⟨vI src e e2, ?_, R3, hon, fun j hj => ?_⟩
  · rw [AV.ren_val r' (fun j hj => zL (hr j hj))]
  · obtain ⟨q, hq, rfl⟩ := AV.ren_refs r' hj
    have hs := hr q hq
    obtain ⟨_, c, t, hc, _⟩ := h1 _ _ hs
    rw [hput, hs]; simp [hc]
open Go.RowKit
inductive Sh where
 | sc (k:VK)
 | agg (l:List VK)
structure Ct where
 a:List Sh
 r:List Sh
structure vJ where
 id:Nat
 a:List Sh
 n:Nat
 t:TypeId
 ks:List VK
 r:List Sh
structure sP where
 P:Program
 G:rJ
 SE:Gn
 ct:FuncId→Option Ct
 Φ:uD
 nt:FuncId→Option Ct
 sl:FuncId→List vJ
def Ab (k:VK) (x:SV):Option X:=match k,x with
 | .int k,.int k' a=>match vG k k',X.inK k a with|true,true=>some a|_,_=>none
 | .bool,.bool a=>some a
 | .bit,.int k' a=>match vG .u64 k',X.isBit a with|true,true=>some a|_,_=>none
 | _,_=>none
def Ei:List VK→List SV→Option (List X)
 | [],[]=>some []
 | k::ks,x::xs=>match Ab k x,Ei ks xs with|some a,some l=>some (a::l)|_,_=>none
 | _,_=>none
def PT (h:Sh) (x:SV):Option (List X):=match h,x with
 | .sc k,x=>match Ab k x with|some a=>some [a]|none=>none
 | .agg l,.agg xs=>Ei l xs
 | .agg l,.v (.agg cs)=>Ei l (cs.toList.map xm)
 | _,_=>none
def wO:List Sh→List SV→Option (List X)
 | [],[]=>some []
 | h::hs,x::xs=>match PT h x,wO hs xs with|some a,some l=>some (a++l)|_,_=>none
 | _,_=>none
def Ac (k:VK) (x:X):SV:=match k with | .int k=>.int k x | .bool=>.bool x | .bit=>.int .u64 x | .nat=>.int .u64 x
def zM:List VK→List X→List SV
 | k::ks,x::xs=>Ac k x::zM ks xs
 | _,_=>[]
def Sh.kinds:Sh→List VK
 | .sc k=>[k]
 | .agg l=>l
def PU (h:Sh) (xs:List X):SV:=match h with
 | .sc k=>match xs with|x::_=>Ac k x | []=>.v undef
 | .agg l=>.agg (zM l xs)
def rH:List Sh→List X→List SV
 | [],_=>[]
 | h::hs,xs=>PU h xs::rH hs (xs.drop h.kinds.length)
def tJ:List SV→SV
 | [x]=>x
 | l=>.tup l
def q9 (l:List Sh):List VK:=l.flatMap Sh.kinds
def rG:Nat→List VK→List X
 | _,[]=>[]
 | b,k::ks=>.var k b::rG (Nat.succ b) ks
def Gp (k:VK) (n:Int):Int:=match k with | .int k=>uH k n | .bool=>rX (sJ n) | .bit=>rX (sJ n) | .nat=>Int.ofNat n.toNat
def JL {β:Sort _} : List VK→List Int→(List X→β)→β
 | k::ks,n::ns,K=>DW (Gp k n) fun n=>JL ks ns fun l=>K (.lit n::l)
 | _,_,K=>K []
def JM:List X→Option (List Int)
 | []=>some []
 | .lit n::l=>match JM l with|some r=>some (n::r)|none=>none
 | _::_=>none
mutual
def SV.refs:SV→List Nat
 | .v _=>[]
 | .int _ _=>[]
 | .bool _=>[]
 | .loc b _=>[b]
 | .hd k=>[k]
 | .ha k _=>[k]
 | .sl b _ _ _=>[b]
 | .fn _ a c=>SV.refss a++SV.refss c
 | .tup l=>SV.refss l
 | .agg l=>SV.refss l
def SV.refss:List SV→List Nat
 | []=>[]
 | x::l=>SV.refs x++SV.refss l
end
def Gq (H:SH):Nat→List Nat→SH→Option SH
 | 0,_,_=>none
 | _+1,[],acc=>some acc
 | f+1,b::todo,acc=>match hget acc b with
  | some _=>Gq H f todo acc
  | none=>match hget H b with
   | none=>none
   | some o=>Gq H f (SV.refss o.c++todo) ((b,o)::acc)
def reach (H:SH) (l:List Nat):Option SH:=match l with | []=>some []|l=>Gq H 2000 l []
def tK (n:Nat):List Nat→Bool
 | []=>false
 | x::l=>match Nat.beq x n with|true=>true|false=>tK n l
def addN (n:Nat) (l:List Nat):List Nat:=match tK n l with|true=>l|false=>n::l
mutual
def SV.ren (f:Nat→Nat):SV→SV
 | .v x=>.v x
 | .int k x=>.int k x
 | .bool x=>.bool x
 | .loc b o=>.loc (f b) o
 | .hd k=>.hd (f k)
 | .ha k off=>.ha (f k) off
 | .sl b o l c=>.sl (f b) o l c
 | .fn g a c=>.fn g (SV.rens f a) (SV.rens f c)
 | .tup l=>.tup (SV.rens f l)
 | .agg l=>.agg (SV.rens f l)
def SV.rens (f:Nat→Nat):List SV→List SV
 | []=>[]
 | x::l=>SV.ren f x::SV.rens f l
end
def uE (m:List (Nat×Nat)) (n:Nat):Nat:=match m with
 | []=>n
 | x::l=>match Nat.beq x.1 n with|true=>x.2|false=>uE l n
structure St where
 N:Nat
 T:rO
 H:SH
 nv:Nat
 dt:List Nat
 fc:Facts
abbrev JO:=List (Nat×List Nat×Bool)
def BM {β:Sort _} (T:rO) (d:Option Tmp) (x:SV) (K:rO→β):β:=match d with|none=>K T|some d=>Mg T d x K
def PV {β:Type} (ops:Array Oper) (T:rO) (o:Oper) (fc:Facts) (K:Bool→Facts→qZ β):qZ β:=match o.guard with
 | none=>K true fc
 | some (j,want)=>match (ops[j]?).bind (·.dst) with
  | none=>K false fc
  | some d=>match uR T d with
   | some (.bool x)=>zZ fc x fun b fc=>K (match b with|true=>want|false=>zC want) fc
   | some (.v (.tuple _))=>K false fc
   | _=>.stuck "guard"
def PW:SV→Option (FuncId×List SV×List SV)
 | .v (.func (.func g) a c)=>some (g,a.toList.map BI,c.toList.map BI)
 | .fn (.func g) a c=>some (g,a,c)
 | _=>none
def PX (op:Op) (ρ:Operand→Option SV):Option (Option (FuncId×List SV)):=match op with
 | .call { callee:=.value f,args:=xs,argTypes:=_ }=>match ρ f with
  | some fv=>match PW fv,Eg ρ xs.toList with
   | some (g,a,c),some bs=>some (some (g,a++bs++c))
   | _,_=>some none
  | none=>some none
 | _=>none
structure CR where
 r:SV
 tc:List Nat
 ef:List (Nat×SO)
 nv:Nat
 fc:Facts
abbrev CF:=FuncId→List SV→SH→Nat→Nat→Facts→qZ CR
def PY (op:Op) (ρ:Operand→Option SV):Option (X×Option SV×Option SV):=match op with
 | .pick c a b=>match ρ c with
  | some (.bool q)=>some (q,ρ a,ρ b)
  | _=>none
 | _=>none
structure UL where
 k:Nat
 kd:IntKind
 n:X
 es:List (Value×Value)
 z:Value
 q:Bool
def JP (kd:IntKind):List (Value×Value)→Bool
 | []=>true
 | x::l=>match x.1 with
  | .int k' _=>match vG kd k' with|true=>JP kd l|false=>false
  | _=>false
def PZ (P:Program) (op:Op) (ρ:Operand→Option SV) (H:SH):Option UL:=match op with
 | .lookup t x i q=>match ρ x,ρ i with
  | some (.hd k),some (.int kd n)=>match hget H k with
   | some o=>match o.t,yD o.c with
    | none,some es=>match P.underlying t with
     | some (.map kt et)=>match FB P kt,Od P et with
      | some kd',some z=>match vG kd' kd,JP kd es with
       | true,true=>some ⟨k,kd,n,es,z,q⟩
       | _,_=>none
      | _,_=>none
     | _=>none
    | _,_=>none
   | none=>none
  | _,_=>none
 | _=>none
def JQ (q:Bool) (v:Value) (b:Bool):SV:=match q with
 | true=>.tup [BI v,.bool (.lit (rX b))]
 | false=>BI v
def Mk {β:Type} (kd:IntKind) (n:X) (q:Bool) (z:Value) (K:SV→Facts→qZ β):List (Value×Value)→Facts→qZ β
 | [],fc=>K (JQ q z false) fc
 | x::l,fc=>match x.1 with
  | .int _ m=>zZ fc (uo .eql kd n (.lit m)) fun b fc=>match b with
   | true=>K (JQ q x.2 true) fc
   | false=>Mk kd n q z K l fc
  | _=>.stuck "key"
structure UM where
 k:Nat
 c:X
 r:SV
def Ml (H:SH) (k:Nat):Option JH:=match hget H k with
 | some o=>match o.t,yD o.c,yP o.c with
  | none,none,some r=>some r
  | _,_,_=>none
 | none=>none
def JR (k:VK) (x:X):SV:=match k with | .int k=>.int k x | .bool=>.bool x | .bit=>.int .u64 x | .nat=>.int .u64 x
def Mm:List VK→List X→List SV
 | k::ks,x::xs=>JR k x::Mm ks xs
 | _,_=>[]
def Mo:Nat→List VK→List X
 | _,[]=>[]
 | b,k::ks=>.var k b::Mo (Nat.succ b) ks
def P5 (P:Program) (op:Op) (ρ:Operand→Option SV) (H:SH):Option UM:=match op with
 | .indexAddr t x i=>match ρ x,ρ i with
  | some (.hd k),some (.int _ (.lit (.ofNat j)))=>match Ml H k,Aw P t with
   | some r,some el=>match tq P el with
    | some sz=>match Nat.beq sz r.ks.length with
     | true=>uu (j*sz) fun off=>some ⟨k,uo .lss .i64 (.lit (.ofNat j)) r.n,.ha k off⟩
     | false=>none
    | none=>none
   | _,_=>none
  | _,_=>none
 | .load t x=>match ρ x with
  | some (.ha k off)=>match Ml H k with
   | some r=>uu (off/r.ks.length) fun j=>match Nat.beq (j*r.ks.length) off,Cw P t with
    | true,some true=>match tq P t with
     | some sz=>match Nat.beq sz r.ks.length,Nat.ble 1 sz with
      | true,true=>uu (r.b+off) fun b=>some ⟨k,uo .lss .i64 (.lit (.ofNat j)) r.n,.agg (Mm r.ks (Mo b r.ks))⟩
      | _,_=>none
     | none=>none
    | true,some false=>match r.ks with
     | [vk]=>uu (r.b+off) fun b=>some ⟨k,uo .lss .i64 (.lit (.ofNat j)) r.n,JR vk (.var vk b)⟩
     | _=>none
    | _,_=>none
   | none=>none
  | _=>none
 | _=>none
def AR:List (Nat×SO)→List Nat→List Nat
 | [],l=>l
 | x::ef,l=>AR ef (addN x.1 l)
def Mq (tc:List Nat):List (Nat×SO)→Bool
 | []=>false
 | x::ef=>match tK x.1 tc with|true=>true|false=>Mq tc ef
def BN (i:Nat) (tc:List Nat) (ef:List (Nat×SO)) (tr:JO):JO:=match tc with | []=>tr|tc=>(i,tc,Mq tc ef)::tr
structure OR where
 T:rO
 H:SH
 tr:JO
 nv:Nat
 dt:List Nat
 fc:Facts
def zm (C:sP) (cf:CF) (ops:Array Oper) (Nb:Nat):Nat→List Oper→rO→SH→JO→Nat→List Nat→Facts→qZ OR
 | _,[],T,H,tr,nv,dt,fc=>.leaf ⟨T,H,tr,nv,dt,fc⟩
 | i,o::os,T,H,tr,nv,dt,fc=>PV ops T o fc fun want fc=>match want with
  | false=>BM T o.dst (.v undef) fun T=>zm C cf ops Nb (Nat.succ i) os T H tr nv dt fc
  | true=>match PX o.op (zJ T) with
   | some none=>.stuck "call: operands"
   | some (some (g,args))=>uu (Nb+2*i) fun k=>(cf g args H k nv fc).bind fun r =>
     BM T o.dst r.r fun T=>AQ H r.ef fun H=>zm C cf ops Nb (Nat.succ i) os T H (BN i r.tc r.ef tr) r.nv (AR r.ef dt) r.fc
   | none=>match PY o.op (zJ T) with
    | some (q,x,y)=>zZ fc q fun b fc=>match (match b with|true=>x|false=>y) with
     | some r=>BM T o.dst r fun T=>zm C cf ops Nb (Nat.succ i) os T H tr nv dt fc
     | none=>.stuck "pick"
    | none=>match PZ C.P o.op (zJ T) H with
     | some L=>Mk L.kd L.n L.q L.z (fun r fc=>BM T o.dst r fun T=>zm C cf ops Nb (Nat.succ i) os T H (BN i [L.k] [] tr) nv dt fc) L.es fc
     | none=>match P5 C.P o.op (zJ T) H with
      | some L=>zZ fc L.c fun b fc=>match b with
       | true=>BM T o.dst L.r fun T=>zm C cf ops Nb (Nat.succ i) os T H (BN i [L.k] [] tr) nv dt fc
       | false=>.stuck "index: beyond"
      | none=>uu (Nb+2*i) fun k=>(PS C.P C.G C.SE fc o.op (zJ T) H k).bind fun r =>
       BM T o.dst r.1 fun T=>AQ H r.2.2 fun H=>zm C cf ops Nb (Nat.succ i) os T H (BN i r.2.1 r.2.2 tr) nv (AR r.2.2 dt) fc
def vK (P:Program) (T:rO) (H:SH):List ResultVar→Option (List SV)
 | []=>some []
 | .tmp t::l=>match uR T t,vK P T H l with
  | some x,some r=>some (x::r)
  | _,_=>none
 | .cell a t::l=>match uR T a with
  | some (.loc b o)=>match hget H b with
   | some ob=>match ob.t with
    | some _=>match BL P t ob.c o,vK P T H l with
     | some x,some r=>some (x::r)
     | _,_=>none
    | none=>none
   | none=>none
  | _=>none
def uS:List SV→Nat→rO
 | [],0=>[]
 | [],n+1=>some (.v undef)::uS [] n
 | _::_,0=>[]
 | x::l,n+1=>some x::uS l n
def Ej:SH→Bool
 | []=>true
 | x::l=>match x.2.t with|some _=>Ej l|none=>false
def JS (k:Nat) (objs:SH):SH→Option (List Nat)
 | []=>some []
 | x::l=>match JS k objs l with
  | none=>none
  | some r=>match Nat.ble k x.1 with
   | true=>some (x.1::r)
   | false=>match hget objs x.1 with|some _=>some r|none=>none
def Mr (k:Nat):List Nat→Option (List (Nat×Nat))
 | []=>some []
 | [n1]=>some [(n1,k)]
 | [n1,n2]=>match Nat.beq n1 n2 with|true=>none|false=>some [(n1,k),(n2,k+1)]
 | _=>none
def yE (dt:List Nat):SH→List Nat
 | []=>[]
 | x::l=>match tK x.1 dt with|true=>x.1::yE dt l|false=>yE dt l
def JU (k:Nat):SH→Bool
 | []=>true
 | x::l=>match Nat.blt x.1 k with|true=>JU k l|false=>false
def keysOf:SH→List Nat
 | []=>[]
 | x::l=>x.1::keysOf l
def AU (f:Nat→Nat) (H:SH):List Nat→List (Nat×SO)
 | []=>[]
 | b::l=>match hget H b with|some o=>(b,⟨SV.rens f o.c,o.t⟩)::AU f H l|none=>AU f H l
def Ad (f:Nat→Nat) (H:SH):List Nat→List (Nat×SO)
 | []=>[]
 | b::l=>match hget H b with|some o=>(f b,⟨SV.rens f o.c,o.t⟩)::Ad f H l|none=>Ad f H l
def Ms (P:Program) (fn:Func) (objs:SH) (k:Nat) (s:St):qZ CR :=
 match vK P s.T s.H fn.results.toList with
 | none=>.stuck "results"
 | some rs=>match reach s.H (SV.refss rs++yE s.dt objs) with
   | none=>.stuck "reach behind a call"
   | some R2=>match JS k objs R2,Ej R2 with
    | none,_=>.stuck "a block of nobody"
    | _,false=>.stuck "a number behind a call"
    | some nw,true=>match nw with
     | []=>.leaf ⟨tJ rs,keysOf objs,AU (fun n=>n) s.H (yE s.dt objs),s.nv,s.fc⟩
     | nw=>match Mr k nw with
      | none=>.stuck "more than two new blocks"
      | some m=>.leaf ⟨(tJ rs).ren (uE m),keysOf objs,AU (uE m) s.H (yE s.dt objs)++Ad (uE m) s.H nw,s.nv,s.fc⟩
mutual
def tC (c:X):SV→SV→Option SV
 | .int k a,.int k' b=>match vG k k' with|true=>some (.int k (Eb c a b))|false=>none
 | .bool a,.bool b=>some (.bool (Eb c a b))
 | .agg l,.agg m=>match C9 c l m with|some r=>some (.agg r)|none=>none
 | .tup l,.tup m=>match C9 c l m with|some r=>some (.tup r)|none=>none
 | _,_=>none
def C9 (c:X):List SV→List SV→Option (List SV)
 | [],[]=>some []
 | x::l,y::m=>match tC c x y,C9 c l m with|some r,some rs=>some (r::rs)|_,_=>none
 | _,_=>none
end
def Gr:List Nat→List Nat→Bool
 | [],[]=>true
 | x::l,y::m=>match Nat.beq x y with|true=>Gr l m|false=>false
 | _,_=>false
def Da (tc:List Nat) (nv:Nat):qZ CR→Option (X×Option SV)
 | .leaf r=>match r.ef with
  | []=>match Gr r.tc tc,Nat.beq r.nv nv with|true,true=>some (.lit (.ofNat 1),some r.r)|_,_=>none
  | _::_=>none
 | .ite c a b=>match Da tc nv a,Da tc nv b with
  | some (x,none),some (y,r)=>some (Eb c x y,r)
  | some (x,r),some (y,none)=>some (Eb c x y,r)
  | some (x,some r),some (y,some q)=>match tC c r q with|some z=>some (Eb c x y,some z)|none=>none
  | _,_=>none
 | .stuck _=>some (.lit (.ofNat 0),none)
 | .call _ _ _ _ _=>none
def P6 (tc:List Nat) (nv:Nat) (fc:Facts) (t:qZ CR):qZ CR:=match t with
 | .ite c a b=>match Da tc nv (.ite c a b) with
  | some (x,some r)=>Ga x (.leaf ⟨r,tc,[],nv,fc⟩) (.stuck "in a call")
  | _=>.ite c a b
 | t=>t
def regionEnd (nt:Nat) (ops:Array Oper) (draw:Bool) (s:St) (r:OR):qZ (Exit×St) :=
 match draw with
 | true=>match drawOK ops nt,traceOK ops s.N r.tr with
  | true,true=>uu (s.N+2*ops.size) fun N=>.leaf (.normal,⟨N,r.T,r.H,r.nv,r.dt,r.fc⟩)
  | false,_=>.stuck "drawOK"
  | _,_=>.stuck "traceOK"
 | false=>match dstsLt nt ops.toList with
  | true=>uu (s.N+2*ops.size) fun N=>.leaf (.normal,⟨N,r.T,r.H,r.nv,r.dt,r.fc⟩)
  | false=>.stuck "dstsLt"
def JV (P:Program) (ex:Code→St→qZ (Exit×St)) (g:FuncId) (args:List SV) (H:SH) (k nv:Nat) (fc:Facts):qZ CR:=match P.funcs[g]? with
 | none=>.stuck "no such function"
 | some fn=>match fn.body with
  | none=>.stuck "no body"
  | some cd=>match reach H (SV.refss args) with
   | none=>.stuck "reach"
   | some objs=>match Nat.ble args.length fn.ntmps,JU k objs,Ej objs with
    | true,true,true=>P6 (keysOf objs) nv fc ((ex cd ⟨k,uS args fn.ntmps,objs,nv,[],fc⟩).bind fun r=>match r.1 with
     | .normal=>Ms P fn objs k r.2
     | .ret=>Ms P fn objs k r.2
     | _=>.stuck "a call's end")
    | _,_,_=>.stuck "a call's arguments"
def Gs (H:SH) (k:VK) (x:SV):Option X:=match k with
 | .nat=>match x with
  | .hd h=>match hget H h with
   | some o=>match o.t with
    | none=>match o.c with
     | [.int _ x]=>some x
     | _=>none
    | some _=>none
   | none=>none
  | .v (.slice none 0 0)=>some (.lit (.ofNat 0))
  | _=>none
 | .int k=>Ab (.int k) x
 | .bool=>Ab .bool x
 | .bit=>Ab .bit x
def El (H:SH):List VK→List SV→Option (List X)
 | [],[]=>some []
 | k::ks,x::xs=>match Gs H k x,El H ks xs with|some a,some l=>some (a::l)|_,_=>none
 | _,_=>none
def JW (H:SH) (h:Sh) (x:SV):Option (List X):=match h,x with
 | .sc k,x=>match Gs H k x with|some a=>some [a]|none=>none
 | .agg l,.agg xs=>El H l xs
 | .agg l,.v (.agg cs)=>El H l (cs.toList.map xm)
 | _,_=>none
def Gt (H:SH):List Sh→List SV→Option (List X)
 | [],[]=>some []
 | h::hs,x::xs=>match JW H h x,Gt H hs xs with|some a,some l=>some (a++l)|_,_=>none
 | _,_=>none
def nN (k:VK):Nat:=match k with | .nat=>1|_=>0
def yQ:List VK→Nat
 | []=>0
 | k::ks=>nN k+yQ ks
def JX (k:VK) (x:X) (h:Nat):SV:=match k with | .nat=>.hd h|k=>Ac k x
def uT:List VK→List X→Nat→List SV
 | k::ks,x::xs,h=>JX k x h::uT ks xs (h+nN k)
 | _,_,_=>[]
def P7 (sh:Sh) (xs:List X) (h:Nat):SV:=match sh with
 | .sc k=>match xs with|x::_=>JX k x h | []=>.v undef
 | .agg l=>.agg (uT l xs h)
def Em:List Sh→List X→Nat→List SV
 | [],_,_=>[]
 | s::ss,xs,h=>P7 s xs h::Em ss (xs.drop s.kinds.length) (h+yQ s.kinds)
def xW:List VK→List X→Nat→List (Nat×SO)
 | k::ks,x::xs,h=>match k with
  | .nat=>uu h fun h'=>(h',⟨[.int .u64 x],none⟩)::xW ks xs (h+1)
  | _=>xW ks xs h
 | _,_,_=>[]
def P8 (C:sP) (ct:Ct) (g:FuncId) (args:List SV) (H:SH) (k nv:Nat) (fc:Facts):qZ CR:=match Gt H ct.a args with
 | none=>.stuck "numbers: arguments"
 | some xs=>.call g xs nv (q9 ct.r).length (uu (nv+(q9 ct.r).length) fun nv'=>.leaf ⟨tJ (Em ct.r (rG nv (q9 ct.r)) k),SV.refss args,xW (q9 ct.r) (rG nv (q9 ct.r)) k,nv',fc⟩)
structure UN where
 i:List SV
 b:Nat
 o:Nat
 n:Nat
 m:Nat
def JY:List SV→Option UN
 | []=>none
 | x::l=>match l with
  | []=>match x with
   | .sl b o n m=>some ⟨[],b,o,n,m⟩
   | _=>none
  | y::l'=>match JY (y::l') with
   | some r=>some ⟨x::r.i,r.b,r.o,r.n,r.m⟩
   | none=>none
def Mt:List vJ→Nat→Nat→TypeId→Option vJ
 | [],_,_,_=>none
 | s::L,n,m,t=>match Nat.beq s.n n,Nat.beq s.n m,Nat.beq s.t t with
  | true,true,true=>some s
  | _,_,_=>Mt L n m t
def P9 (C:sP) (L:List vJ) (args:List SV) (H:SH) (nv:Nat) (fc:Facts) (K:Unit→qZ CR):qZ CR:=match JY args with
 | none=>K ()
 | some r=>match hget H r.b with
  | none=>K ()
  | some o=>match o.t with
   | none=>K ()
   | some t=>match Mt L r.n r.m t with
    | none=>K ()
    | some s=>match Nat.beq r.o 0,wO s.a r.i,Ei s.ks o.c with
     | true,some xs,some ys=>match JM (xs++ys) with
      | some ns=>match Nat.beq (C.Φ s.id ns).length (q9 s.r).length with
       | true=>JL (q9 s.r) (C.Φ s.id ns) fun l=>.leaf ⟨tJ (rH s.r l),[r.b],[],nv,fc⟩
       | false=>.stuck "contract"
      | none=>.call s.id (xs++ys) nv (q9 s.r).length (uu (nv+(q9 s.r).length) fun nv'=>.leaf ⟨tJ (rH s.r (rG nv (q9 s.r))),[r.b],[],nv',fc⟩)
     | _,_,_=>K ()
def JZ (C:sP) (ex:Code→St→qZ (Exit×St)) (g:FuncId) (args:List SV) (H:SH) (k nv:Nat) (fc:Facts):qZ CR:=match C.nt g with
 | some ct=>P8 C ct g args H k nv fc
 | none=>match C.ct g with
 | none=>match C.sl g with
  | []=>JV C.P ex g args H k nv fc
  | L=>P9 C L args H nv fc fun _=>JV C.P ex g args H k nv fc
 | some ct=>match wO ct.a args with
  | none=>JV C.P ex g args H k nv fc
  | some xs=>match JM xs with
   | some ns=>match Nat.beq (C.Φ g ns).length (q9 ct.r).length with
    | true=>JL (q9 ct.r) (C.Φ g ns) fun l=>.leaf ⟨tJ (rH ct.r l),[],[],nv,fc⟩
    | false=>.stuck "contract"
   | none=>.call g xs nv (q9 ct.r).length (uu (nv+(q9 ct.r).length) fun nv'=>.leaf ⟨tJ (rH ct.r (rG nv (q9 ct.r))),[],[],nv',fc⟩)
def exec (C:sP):Nat→Code→St→qZ (Exit×St)
 | 0,_,_=>.stuck "no fuel"
 | f+1,c,s=>match c with
  | .skip=>.leaf (.normal,s)
  | .label _=>.leaf (.normal,s)
  | .exit id=>.leaf (.exit id,s)
  | .ret=>.leaf (.ret,s)
  | .seq a b=>(exec C f a s).bind fun r=>match r.1 with | .normal=>exec C f b r.2|_=>.leaf r
  | .cond c a b=>match zJ s.T c with
   | some (.bool q)=>zZ s.fc q fun bb fc=>match bb with|true=>exec C f a { s with fc:=fc } | false=>exec C f b { s with fc:=fc }
   | _=>.stuck "cond"
  | .block id c=>(exec C f c s).bind fun r=>match r.1 with
   | .exit id'=>match Nat.beq id' id with|true=>.leaf (.normal,r.2)|false=>.leaf r
   | _=>.leaf r
  | .loop c=>(exec C f c s).bind fun r=>match r.1 with | .normal=>exec C f (.loop c) r.2|_=>.leaf r
  | .scope c=>(exec C f c s).bind fun r=>match r.1 with | .goto _=>.stuck "goto" | _=>.leaf r
  | .region _ ops draw=>(zm C (JZ C (exec C f)) ops s.N 0 ops.toList s.T s.H [] s.nv s.dt s.fc).bind fun r=>regionEnd s.T.length ops draw s r
  | _=>.stuck "no such text"
def rU (C:sP) (fuel:Nat) (g:FuncId) (args:List SV) (nv:Nat):qZ SV :=
 match C.P.funcs[g]? with
 | none=>.stuck "no such function"
 | some fn=>match fn.body with
  | none=>.stuck "no body"
  | some cd=>match Nat.ble args.length fn.ntmps with
   | true=>(exec C fuel cd ⟨0,uS args fn.ntmps,[],nv,[],[]⟩).bind fun r=>match r.1 with
    | .normal=>match vK C.P r.2.T r.2.H fn.results.toList with|some rs=>.leaf (tJ rs)|none=>.stuck "results"
    | .ret=>match vK C.P r.2.T r.2.H fn.results.toList with|some rs=>.leaf (tJ rs)|none=>.stuck "results"
    | _=>.stuck "end"
   | false=>.stuck "arguments"
open Go.RowKit
def uf (h:Sh) (ns:List Int):Value:=match h with
 | .sc k=>match ns with|n::_=>tH k n | []=>undef
 | .agg l=>.agg (sK l ns).toArray
def rT:List Sh→List Int→List Value
 | [],_=>[]
 | h::hs,ns=>uf h ns::rT hs (ns.drop h.kinds.length)
def sS:List Value→Value
 | [x]=>x
 | l=>.tuple l.toArray
def uW:List VK→List Int→List Int
 | k::ks,n::ns=>k.norm n::uW ks ns
 | _,_=>[]
theorem Mv {k:VK} {x:SV} {a:X} (s:ry) (h:Ab k x=some a):x.den s = .v (tH k (a.den s)):=by
 unfold Ab at h
 split at h
 ·split at h
  ·rename_i hk hi
   cases h
   have hk:=xk hk;subst hk
   simp only[SV.den,tH,X.inK_ok s hi]
  ·cases h
 ·cases h;rfl
 ·split at h
  ·rename_i hk hi
   cases h
   have hk:=xk hk;subst hk
   simp only[SV.den,tH];rw[← X.isBit_ok s hi]
  ·cases h
 ·cases h
theorem J6 (s:ry):∀ {ks:List VK} {xs:List SV} {l:List X},Ei ks xs=some l→SV.dens s xs=(sK ks (l.map (X.den s))).map .v∧l.length=ks.length
 | [],[],l,h=>by cases h;exact⟨rfl,rfl⟩
 | k::ks,x::xs,l,h=>by
  simp only[Ei] at h
  split at h
  ·rename_i a l' ha hl
   cases h
   obtain⟨h1,h2⟩:=J6 s hl
   exact⟨by rw[SV.dens,h1,Mv s ha];rfl,by simp[h2]⟩
  ·cases h
 | [],_::_,l,h=>by cases h
 | _::_,[],l,h=>by cases h
theorem ado (s:ry) {h:Sh} {x:SV} {l:List X} (hh:PT h x=some l):x.den s = .v (uf h (l.map (X.den s)))∧l.length=h.kinds.length:=by
 unfold PT at hh
 split at hh
 ·split at hh
  ·rename_i a ha
   cases hh
   exact⟨Mv s ha,rfl⟩
  ·cases hh
 ·obtain⟨h1,h2⟩:=J6 s hh
  exact⟨by simp only[SV.den,h1,L8];rfl,h2⟩
 ·obtain⟨h1,h2⟩:=J6 s hh
  rw[zI] at h1
  refine⟨?_,h2⟩
  simp only[SV.den,uf]
  rename_i l0 cs
  have:cs.toList=sK l0 (l.map (X.den s)):=by
   have:=congrArg tO h1
   rw[CW,CW] at this
   exact Option.some.inj this
  rw[← this]
 ·cases hh
theorem UO:∀ (ks:List VK) (p q:List Int),p.length=ks.length→sK ks (p++q)=sK ks p
 | [],[],q,_=>by cases q<;>rfl
 | k::ks,n::p,q,h=>by rw[List.cons_append,sK,sK,UO ks p q (by simpa using h)]
 | [],_::_,_,h=>by simp at h
 | _::_,[],_,h=>by simp at h
theorem Qa (h:Sh) (p q:List Int) (hl:p.length=h.kinds.length):uf h (p++q)=uf h p:=by
 cases h with
 | sc k =>
  cases p with
  | nil=>simp[Sh.kinds] at hl
  | cons n p=>rfl
 | agg l=>simp only[uf];rw[UO l p q hl]
theorem Db (s:ry):∀ {hs:List Sh} {xs:List SV} {l:List X},wO hs xs=some l→SV.dens s xs=(rT hs (l.map (X.den s))).map .v∧l.length=(q9 hs).length
 | [],[],l,h=>by cases h;exact⟨rfl,rfl⟩
 | h::hs,x::xs,l,hh=>by
  simp only[wO] at hh
  split at hh
  ·rename_i a l' ha hl
   cases hh
   obtain⟨h1,h2⟩:=Db s hl
   obtain⟨h3,h4⟩:=ado s ha
   refine⟨?_,by simp[q9,h4] at h2 ⊢;omega⟩
   rw[SV.dens,h1,h3,rT,List.map_append,Qa _ _ _ (by simpa using h4),List.map_cons]
   rw[show(List.map (X.den s) a++List.map (X.den s) l').drop h.kinds.length=List.map (X.den s) l' by rw[List.drop_append_of_le_length (by simp[h4])];rw[List.drop_of_length_le (by simp[h4])];rfl]
  ·cases hh
 | [],_::_,l,h=>by cases h
 | _::_,[],l,h=>by cases h
theorem Mw {k:VK} {x:X} {n:Int} {s:ry} (h:x.den s=k.norm n):(Ac k x).den s = .v (tH k n):=by
 cases k with
 | int k=>simp only[Ac,SV.den,h,VK.norm,tH]
 | bool=>simp only[Ac,SV.den,h,VK.norm,tH,ut]
 | bit=>simp only[Ac,SV.den,h,VK.norm,tH]
 | nat=>simp only[Ac,SV.den,h,VK.norm,tH]
theorem Mx {s:ry} : ∀ {ks:List VK} {xs:List X} {ns:List Int},xs.map (X.den s)=uW ks ns→xs.length=ks.length→SV.dens s (zM ks xs)=(sK ks ns).map .v
 | [],xs,ns,_,_=>by cases xs<;>rfl
 | k::ks,[],ns,_,hl=>by simp at hl
 | k::ks,x::xs,[],h,_=>by simp[uW] at h
 | k::ks,x::xs,n::ns,h,hl=>by
  simp only[List.map_cons,uW,List.cons.injEq] at h
  rw[zM,SV.dens,Mx h.2 (by simpa using hl),Mw h.1];rfl
theorem UQ:∀ (ks js:List VK) (ns:List Int),(uW (ks++js) ns).take ks.length=uW ks ns
 | [],js,ns=>rfl
 | k::ks,js,[]=>rfl
 | k::ks,js,n::ns=>by rw[List.cons_append,uW,List.length_cons,List.take_succ_cons,UQ ks js ns,uW]
theorem UR:∀ (ks js:List VK) (ns:List Int),(uW (ks++js) ns).drop ks.length=uW js (ns.drop ks.length)
 | [],js,ns=>rfl
 | k::ks,js,[]=>by cases js<;>simp[uW]
 | k::ks,js,n::ns=>by rw[List.cons_append,uW,List.length_cons,List.drop_succ_cons,UR ks js ns,List.drop_succ_cons]
theorem UT:∀ (ks:List VK) (xs:List X),zM ks (xs.take ks.length)=zM ks xs
 | [],xs=>by cases xs<;>rfl
 | k::ks,[]=>rfl
 | k::ks,x::xs=>by rw[List.length_cons,List.take_succ_cons,zM,UT ks xs,zM]
theorem adp {s:ry} {h:Sh} {js:List VK} {xs:List X} {ns:List Int} (hx:xs.map (X.den s)=uW (h.kinds++js) ns) (hl:xs.length=(h.kinds++js).length):(PU h xs).den s = .v (uf h ns):=by
 cases h with
 | sc k =>
  cases xs with
  | nil=>simp[Sh.kinds] at hl
  | cons x xs =>
   cases ns with
   | nil=>simp[Sh.kinds,uW] at hx
   | cons n ns =>
    simp only[Sh.kinds,List.cons_append,List.nil_append,uW,List.map_cons,List.cons.injEq] at hx
    exact Mw hx.1
 | agg l =>
  simp only[PU,SV.den,uf]
  have h1:(xs.take l.length).map (X.den s)=uW l ns:=by
   rw[List.map_take,hx];exact UQ l js ns
  rw[← UT l xs,Mx h1 (by simp[Sh.kinds] at hl ⊢;omega),L8]
theorem BO {s:ry} : ∀ {hs:List Sh} {xs:List X} {ns:List Int},xs.map (X.den s)=uW (q9 hs) ns→xs.length=(q9 hs).length→SV.dens s (rH hs xs)=(rT hs ns).map .v
 | [],xs,ns,_,_=>rfl
 | h::hs,xs,ns,hx,hl=>by
  have hk:q9 (h::hs)=h.kinds++q9 hs:=by simp[q9]
  rw[hk] at hx hl
  rw[rH,SV.dens,adp hx hl,BO (hs:=hs) (ns:=ns.drop h.kinds.length) (by rw[List.map_drop,hx,UR]) (by simp at hl ⊢;omega)]
  rfl
theorem AX (s:ry):∀ (ks:List VK) (b:Nat),(rG b ks).map (X.den s)=uW ks (vH s b ks.length)∧(rG b ks).length=ks.length
 | [],b=>⟨rfl,rfl⟩
 | k::ks,b=>by
  obtain⟨h1,h2⟩:=AX s ks (b+1)
  refine⟨?_,by simp[rG,h2]⟩
  rw[rG,List.map_cons,h1];rfl
theorem UU (k:VK) (n:Int):Gp k n=k.norm n:=by
 cases k with
 | int k=>exact uh k n
 | bool=>simp only[Gp,VK.norm,uI]
 | bit=>simp only[Gp,VK.norm,uI]
 | nat=>rfl
def Gu:List VK→List Int→List X
 | k::ks,n::ns=>.lit (Gp k n)::Gu ks ns
 | _,_=>[]
theorem Qb {β:Sort _} : ∀ (ks:List VK) (ns:List Int) (K:List X→β),JL ks ns K=K (Gu ks ns)
 | [],ns,K=>by cases ns<;>rfl
 | k::ks,[],K=>rfl
 | k::ks,n::ns,K=>by rw[JL,DX,Qb ks ns];rfl
theorem Qc (s:ry):∀ (ks:List VK) (ns:List Int),(Gu ks ns).map (X.den s)=uW ks ns
 | [],ns=>by cases ns<;>rfl
 | k::ks,[]=>rfl
 | k::ks,n::ns=>by rw[Gu,List.map_cons,Qc s ks ns,uW,X.den,UU]
theorem Qd:∀ (ks:List VK) (ns:List Int),ns.length=ks.length→(Gu ks ns).length=ks.length
 | [],ns,_=>by cases ns<;>rfl
 | k::ks,[],h=>by simp at h
 | k::ks,n::ns,h=>by rw[Gu];simp[Qd ks ns (by simpa using h)]
theorem Qe (s:ry):∀ {xs:List X} {ns:List Int},JM xs=some ns→xs.map (X.den s)=ns
 | [],ns,h=>by cases h;rfl
 | .lit n::l,ns,h=>by
  simp only[JM] at h
  split at h
  ·rename_i r hr;cases h;rw[List.map_cons,Qe s hr];rfl
  ·cases h
 | .var _ _::_,_,h=>by cases h
 | .bin _ _ _ _::_,_,h=>by cases h
 | .conv _ _::_,_,h=>by cases h
 | .com _ _::_,_,h=>by cases h
 | .not _::_,_,h=>by cases h
 | .and _ _::_,_,h=>by cases h
 | .beq _ _::_,_,h=>by cases h
 | .min _ _::_,_,h=>by cases h
 | .max _ _::_,_,h=>by cases h
 | .ite _ _ _::_,_,h=>by cases h
 | .dlen _::_,_,h=>by cases h
theorem Qf {s:ry} {l:List SV} {vs:List Value} (h:SV.dens s l=vs.map .v):(tJ l).den s = .v (sS vs):=by
 match l,vs,h with
 | [],[],_=>simp only[tJ,SV.den,SV.dens,sS];exact L9 []
 | [x],[v],h=>simpa [SV.dens,tJ,sS] using h
 | x::y::l,v::u::vs,h =>
  simp only[tJ,SV.den,h,L9,sS]
 | [],v::vs,h=>simp[SV.dens] at h
 | x::l,[],h=>simp[SV.dens] at h
 | [x],v::u::vs,h=>simp[SV.dens] at h
 | x::y::l,[v],h=>simp[SV.dens] at h
theorem Gv (s:ry) (l:List SV):zX (SV.dens s l)=(tJ l).den s:=by
 match l with
 | []=>rfl
 | [x]=>rfl
 | x::y::l=>rfl
mutual
theorem UV (s:ry) (c:X):∀ {a b r:SV},tC c a b=some r→r.den s=if c.den s=0 then b.den s else a.den s
 | .int k a,.int k' b,r,h=>by
  simp only[tC] at h
  split at h
  ·rename_i hk
   cases h
   have:=xk hk;subst this
   simp only[SV.den,JE];split<;>rfl
  ·cases h
 | .bool a,.bool b,r,h=>by
  simp only[tC] at h
  cases h
  simp only[SV.den,JE];split<;>rfl
 | .agg l,.agg m,r,h=>by
  simp only[tC] at h
  split at h
  ·rename_i q hq
   cases h
   have:=Qg s c hq
   simp only[SV.den,this];split<;>rfl
  ·cases h
 | .tup l,.tup m,r,h=>by
  simp only[tC] at h
  split at h
  ·rename_i q hq
   cases h
   have:=Qg s c hq
   simp only[SV.den,this];split<;>rfl
  ·cases h
 | .v _,_,_,h=>by simp[tC] at h
 | .loc _ _,_,_,h=>by simp[tC] at h
 | .sl _ _ _ _,_,_,h=>by simp[tC] at h
 | .fn _ _ _,_,_,h=>by simp[tC] at h
 | .int _ _,.v _,_,h=>by simp[tC] at h
 | .int _ _,.bool _,_,h=>by simp[tC] at h
 | .int _ _,.loc _ _,_,h=>by simp[tC] at h
 | .int _ _,.sl _ _ _ _,_,h=>by simp[tC] at h
 | .int _ _,.fn _ _ _,_,h=>by simp[tC] at h
 | .int _ _,.tup _,_,h=>by simp[tC] at h
 | .int _ _,.agg _,_,h=>by simp[tC] at h
 | .bool _,.v _,_,h=>by simp[tC] at h
 | .bool _,.int _ _,_,h=>by simp[tC] at h
 | .bool _,.loc _ _,_,h=>by simp[tC] at h
 | .bool _,.sl _ _ _ _,_,h=>by simp[tC] at h
 | .bool _,.fn _ _ _,_,h=>by simp[tC] at h
 | .bool _,.tup _,_,h=>by simp[tC] at h
 | .bool _,.agg _,_,h=>by simp[tC] at h
 | .agg _,.v _,_,h=>by simp[tC] at h
 | .agg _,.int _ _,_,h=>by simp[tC] at h
 | .agg _,.bool _,_,h=>by simp[tC] at h
 | .agg _,.loc _ _,_,h=>by simp[tC] at h
 | .agg _,.sl _ _ _ _,_,h=>by simp[tC] at h
 | .agg _,.fn _ _ _,_,h=>by simp[tC] at h
 | .agg _,.tup _,_,h=>by simp[tC] at h
 | .tup _,.v _,_,h=>by simp[tC] at h
 | .tup _,.int _ _,_,h=>by simp[tC] at h
 | .tup _,.bool _,_,h=>by simp[tC] at h
 | .tup _,.loc _ _,_,h=>by simp[tC] at h
 | .tup _,.sl _ _ _ _,_,h=>by simp[tC] at h
 | .tup _,.fn _ _ _,_,h=>by simp[tC] at h
 | .tup _,.agg _,_,h=>by simp[tC] at h
theorem Qg (s:ry) (c:X):∀ {a b r:List SV},C9 c a b=some r→SV.dens s r=if c.den s=0 then SV.dens s b else SV.dens s a
 | [],[],r,h=>by simp only[C9] at h;cases h;split<;>rfl
 | x::l,y::m,r,h=>by
  simp only[C9] at h
  split at h
  ·rename_i q qs h1 h2
   cases h
   have e1:=UV s c h1
   have e2:=Qg s c h2
   simp only[SV.dens,e1,e2];split<;>rfl
  ·cases h
 | [],_::_,_,h=>by simp[C9] at h
 | _::_,[],_,h=>by simp[C9] at h
end
theorem UW:∀ {a b:List Nat},Gr a b=true→a=b
 | [],[],_=>rfl
 | x::l,y::m,h=>by
  simp only[Gr] at h
  split at h
  ·rename_i hb;rw[sN.1 hb,UW h]
  ·cases h
 | [],_::_,h=>by simp[Gr] at h
 | _::_,[],h=>by simp[Gr] at h
theorem En {Φ:uD} {s:ry} {tc:List Nat} {nv:Nat} : ∀ {t:qZ CR} {x:X} {o:Option SV},Da tc nv t=some (x,o)→x.den s≠0→∃ r,t.path Φ s=some r∧r.tc=tc∧r.ef = []∧∃ z,o=some z∧z.den s=r.r.den s
 | .leaf r,x,o,h,hx=>by
  simp only[Da] at h
  split at h
  ·rename_i he
   split at h
   ·rename_i h1 h2
    cases h
    exact⟨r,rfl,UW h1,he,_,rfl,rfl⟩
   ·cases h
  ·cases h
 | .stuck w,x,o,h,hx=>by simp only[Da,Option.some.injEq,Prod.mk.injEq] at h;rw[← h.1] at hx;exact absurd rfl hx
 | .call _ _ _ _ _,x,o,h,hx=>by simp[Da] at h
 | .ite c a b,x,o,h,hx=>by
  simp only[Da] at h
  split at h
  ·rename_i y1 y2 q h1 h2
   cases h
   rw[JE] at hx
   by_cases hc:c.den s=0
   ·rw[if_pos hc] at hx
    obtain⟨r,hr,h3⟩:=En (Φ:=Φ) h2 hx
    exact⟨r,by simp only[qZ.path,if_pos hc];exact hr,h3⟩
   ·rw[if_neg hc] at hx
    obtain⟨r,hr,_,_,z,hz,_⟩:=En (Φ:=Φ) h1 hx
    cases hz
  ·rename_i y1 q y2 hno h1 h2
   cases h
   rw[JE] at hx
   by_cases hc:c.den s=0
   ·rw[if_pos hc] at hx
    obtain⟨r,hr,_,_,z,hz,_⟩:=En (Φ:=Φ) h2 hx
    cases hz
   ·rw[if_neg hc] at hx
    obtain⟨r,hr,h3⟩:=En (Φ:=Φ) h1 hx
    exact⟨r,by simp only[qZ.path,if_neg hc];exact hr,h3⟩
  ·rename_i y1 q1 y2 q2 h1 h2
   split at h
   ·rename_i z hz
    cases h
    have hzd:=UV s c hz
    rw[JE] at hx
    by_cases hc:c.den s=0
    ·rw[if_pos hc] at hx hzd
     obtain⟨r,hr,h3,h4,u,hu,h5⟩:=En (Φ:=Φ) h2 hx
     cases hu
     exact⟨r,by simp only[qZ.path,if_pos hc];exact hr,h3,h4,_,rfl,hzd.trans h5⟩
    ·rw[if_neg hc] at hx hzd
     obtain⟨r,hr,h3,h4,u,hu,h5⟩:=En (Φ:=Φ) h1 hx
     cases hu
     exact⟨r,by simp only[qZ.path,if_neg hc];exact hr,h3,h4,_,rfl,hzd.trans h5⟩
   ·cases h
  ·cases h
theorem adq {Φ:uD} {s:ry} {tc:List Nat} {nv:Nat} {fc:Facts} {t:qZ CR} {r':CR} (hf:sQ s fc) (h:(P6 tc nv fc t).path Φ s=some r'):∃ r,t.path Φ s=some r∧r.r.den s=r'.r.den s∧r.tc=r'.tc∧r.ef=r'.ef∧(sQ s r.fc→sQ s r'.fc):=by
 unfold P6 at h
 split at h
 ·rename_i c a b
  split at h
  ·rename_i x z hm
   rw[O7] at h
   split at h
   ·cases h
   ·rename_i hx
    cases h
    obtain⟨r,h1,h2,h3,u,hu,h4⟩:=En (Φ:=Φ) hm hx
    cases hu
    exact⟨r,h1,h4.symm,h2,h3,fun _=>hf⟩
  ·exact⟨r',h,rfl,rfl,rfl,id⟩
 ·exact⟨r',h,rfl,rfl,rfl,id⟩
open Go.RowKit
mutual
theorem SV.den_refs (s:ry):∀ (x:SV) {r:Nat},r∈(x.den s).refs→r∈x.refs
 | .v _,r,h=>by simp[SV.den,AV.refs] at h
 | .int _ _,r,h=>by simp[SV.den,AV.refs] at h
 | .bool _,r,h=>by simp[SV.den,AV.refs] at h
 | .loc b o,r,h=>by simpa [SV.den,AV.refs,SV.refs] using h
 | .sl b o l c,r,h=>by simpa [SV.den,AV.refs,SV.refs] using h
 | .hd k,r,h=>by simpa [SV.den,AV.refs,SV.refs] using h
 | .ha k off,r,h=>by simpa [SV.den,AV.refs,SV.refs] using h
 | .fn g a c,r,h=>by
  rw[SV.den] at h
  rw[SV.refs]
  rcases List.mem_append.1 (Tp h) with h|h
  ·exact List.mem_append_left _ (SV.dens_refs s a h)
  ·exact List.mem_append_right _ (SV.dens_refs s c h)
 | .tup l,r,h=>by rw[SV.den] at h;rw[SV.refs];exact SV.dens_refs s l (abf h)
 | .agg l,r,h=>by rw[SV.den] at h;rw[SV.refs];exact SV.dens_refs s l (Oa h)
theorem SV.dens_refs (s:ry):∀ (l:List SV) {r:Nat},r∈AV.refss (SV.dens s l)→r∈SV.refss l
 | [],r,h=>by simp[SV.dens,AV.refss] at h
 | x::l,r,h=>by
  rw[SV.dens,AV.refss] at h
  rw[SV.refss]
  rcases List.mem_append.1 h with h|h
  ·exact List.mem_append_left _ (SV.den_refs s x h)
  ·exact List.mem_append_right _ (SV.dens_refs s l h)
end
theorem J7 (f:Nat→Nat):∀ l:List AV,tO (AV.rens f l)=tO l
 | []=>rfl
 | .v x::l=>by simp only[AV.rens,AV.ren,tO,J7 f l]
 | .loc _ _::l=>rfl
 | .sl _ _ _ _::l=>rfl
 | .hd _::l=>rfl
 | .ha _ _::l=>rfl
 | .fn _ _ _::l=>rfl
 | .tup _::l=>rfl
 | .agg _::l=>rfl
theorem adr (f:Nat→Nat) (l:List AV):(vY l).ren f=vY (AV.rens f l):=by
 unfold vY;rw[J7];cases tO l<;>rfl
theorem ads (f:Nat→Nat) (l:List AV):(xg l).ren f=xg (AV.rens f l):=by
 unfold xg;rw[J7];cases tO l<;>rfl
theorem adt (f:Nat→Nat) (g:Fn) (a c:List AV):(xh g a c).ren f=xh g (AV.rens f a) (AV.rens f c):=by
 unfold xh;rw[J7,J7];cases tO a<;>cases tO c<;>rfl
mutual
theorem SV.den_ren (s:ry) (f:Nat→Nat):∀ x:SV,(x.ren f).den s=(x.den s).ren f
 | .v _=>rfl
 | .int _ _=>rfl
 | .bool _=>rfl
 | .loc b o=>rfl
 | .hd k=>rfl
 | .ha k off=>rfl
 | .sl b o l c=>rfl
 | .fn g a c=>by simp only[SV.ren,SV.den,adt,SV.dens_ren s f a,SV.dens_ren s f c]
 | .tup l=>by simp only[SV.ren,SV.den,ads,SV.dens_ren s f l]
 | .agg l=>by simp only[SV.ren,SV.den,adr,SV.dens_ren s f l]
theorem SV.dens_ren (s:ry) (f:Nat→Nat):∀ l:List SV,SV.dens s (SV.rens f l)=AV.rens f (SV.dens s l)
 | []=>rfl
 | x::l=>by simp only[SV.rens,SV.dens,AV.rens,SV.den_ren s f x,SV.dens_ren s f l]
end
mutual
theorem AV.ren_id {f:Nat→Nat} : ∀ x:AV,(∀ r∈x.refs,f r=r)→x.ren f=x
 | .v _,_=>rfl
 | .loc b o,h=>by simp only[AV.ren];rw[h b (by simp[AV.refs])]
 | .sl b o l c,h=>by simp only[AV.ren];rw[h b (by simp[AV.refs])]
 | .hd k,h=>by simp only[AV.ren];rw[h k (by simp[AV.refs])]
 | .ha k o,h=>by simp only[AV.ren];rw[h k (by simp[AV.refs])]
 | .fn g a c,h=>by
  simp only[AV.ren]
  rw[AV.rens_id a (fun r hr=>h r (by rw[AV.refs];exact List.mem_append_left _ hr)),AV.rens_id c (fun r hr=>h r (by rw[AV.refs];exact List.mem_append_right _ hr))]
 | .tup l,h=>by simp only[AV.ren];rw[AV.rens_id l (fun r hr=>h r (by rw[AV.refs];exact hr))]
 | .agg l,h=>by simp only[AV.ren];rw[AV.rens_id l (fun r hr=>h r (by rw[AV.refs];exact hr))]
theorem AV.rens_id {f:Nat→Nat} : ∀ l:List AV,(∀ r∈AV.refss l,f r=r)→AV.rens f l=l
 | [],_=>rfl
 | x::l,h=>by
  rw[AV.rens,AV.ren_id x (fun r hr=>h r (by rw[AV.refss];exact List.mem_append_left _ hr)),AV.rens_id l (fun r hr=>h r (by rw[AV.refss];exact List.mem_append_right _ hr))]
end
theorem J8 {n:Nat} : ∀ {l:List Nat},tK n l=true↔n∈l
 | []=>by simp[tK]
 | x::l=>by
  simp only[tK]
  cases h:Nat.beq x n with
  | true=>simp only[sN.1 h,List.mem_cons,true_or]
  | false =>
   simp only[]
   rw[J8,List.mem_cons]
   constructor
   ·exact .inr
   ·rintro(rfl|h1)
    ·simp at h
    ·exact h1
theorem BP {j:Nat} : ∀ {H:SH},(∃ o,hget H j=some o)↔j∈keysOf H
 | []=>by simp[hget,keysOf]
 | x::l=>by
  simp only[hget,keysOf]
  cases h:Nat.beq x.1 j with
  | true=>simp[sN.1 h]
  | false =>
   simp only[]
   rw[BP,List.mem_cons]
   constructor
   ·exact .inr
   ·rintro(rfl|h1)
    ·simp at h
    ·exact h1
theorem UX {k:Nat} : ∀ {H:SH},JU k H=true→∀ j∈keysOf H,j<k
 | [],_,j,h=>by simp[keysOf] at h
 | x::l,h,j,hj=>by
  simp only[JU] at h
  split at h
  ·rename_i hb
   simp only[keysOf,List.mem_cons] at hj
   rcases hj with rfl|hj
   ·simpa [Nat.blt_eq] using hb
   ·exact UX h j hj
  ·cases h
structure Reached (H:SH) (l:List Nat) (R:SH):Prop where
 sub:∀ b o,hget R b=some o→hget H b=some o
 cl:∀ b o,hget R b=some o→∀ r∈SV.refss o.c,r∈keysOf R
 all:∀ b∈l,b∈keysOf R
theorem Qh {H:SH} : ∀ {n:Nat} {todo:List Nat} {acc R:SH},Gq H n todo acc=some R→(∀ b o,hget acc b=some o→hget H b=some o)→(∀ b o,hget acc b=some o→∀ r∈SV.refss o.c,r∈todo∨r∈keysOf acc) →
  Reached H todo R∧∀ b∈keysOf acc,b∈keysOf R
 | 0,_,_,_,h,_,_=>by cases h
 | n+1,[],acc,R,h,h1,h2=>by
  simp only[Gq,Option.some.injEq] at h;subst h
  exact⟨⟨h1,fun b o hb r hr=>(h2 b o hb r hr).resolve_left (by simp),fun b hb=>by simp at hb⟩,fun b hb=>hb⟩
 | n+1,b::todo,acc,R,h,h1,h2=>by
  simp only[Gq] at h
  split at h
  ·rename_i o ho
   have hk:b∈keysOf acc:=BP.1 ⟨o,ho⟩
   obtain⟨h3,h4⟩:=Qh h h1 (fun b' o' hb' r hr=>by
    rcases h2 b' o' hb' r hr with h5|h5
    ·rcases List.mem_cons.1 h5 with rfl|h5
     ·exact .inr hk
     ·exact .inl h5
    ·exact .inr h5)
   refine⟨⟨h3.sub,h3.cl,fun b' hb'=>?_⟩,h4⟩
   rcases List.mem_cons.1 hb' with rfl|hb'
   ·exact h4 _ hk
   ·exact h3.all _ hb'
  ·split at h
   ·cases h
   ·rename_i hno _ o ho
    have hget':∀ b' o',hget ((b,o)::acc) b'=some o'→(b'=b∧o'=o)∨hget acc b'=some o':=fun b' o' hb'=>by
     simp only[hget] at hb'
     split at hb'
     ·rename_i he;cases hb';exact .inl ⟨(sN.1 he).symm,rfl⟩
     ·exact .inr hb'
    obtain⟨h3,h4⟩:=Qh h (fun b' o' hb'=>by
     rcases hget' b' o' hb' with⟨rfl,rfl⟩|hb'
     ·exact ho
     ·exact h1 b' o' hb') (fun b' o' hb' r hr=>by
     rcases hget' b' o' hb' with⟨rfl,rfl⟩|hb'
     ·exact .inl (List.mem_append_left _ hr)
     ·rcases h2 b' o' hb' r hr with h5|h5
      ·rcases List.mem_cons.1 h5 with rfl|h5
       ·exact .inr (by simp[keysOf])
       ·exact .inl (List.mem_append_right _ h5)
      ·exact .inr (by simp[keysOf,h5]))
    refine⟨⟨h3.sub,h3.cl,fun b' hb'=>?_⟩,fun b' hb'=>h4 _ (by simp[keysOf,hb'])⟩
    rcases List.mem_cons.1 hb' with rfl|hb'
    ·exact h4 _ (by simp[keysOf])
    ·exact h3.all _ (List.mem_append_right _ hb')
theorem UY {H:SH} {l:List Nat} {R:SH} (h:reach H l=some R):Reached H l R:=by
 unfold reach at h
 split at h
 ·cases h;exact⟨fun b o hb=>(by cases hb),fun b o hb=>(by cases hb),fun b hb=>(by cases hb)⟩
 ·exact(Qh h (fun b o hb=>(by cases hb)) (fun b o hb=>(by cases hb))).1
theorem UZ {k:Nat} {objs:SH} : ∀ {R:SH} {nw:List Nat},JS k objs R=some nw→(∀ j∈keysOf R,j∈nw∨j∈keysOf objs)∧∀ n∈nw,k≤n∧n∈keysOf R
 | [],nw,h=>by cases h;exact⟨fun j hj=>by simp[keysOf] at hj,fun n hn=>by simp at hn⟩
 | x::l,nw,h=>by
  simp only[JS] at h
  split at h
  ·cases h
  ·rename_i r hr
   obtain⟨h1,h2⟩:=UZ hr
   split at h
   ·rename_i hk
    cases h
    refine⟨fun j hj=>?_,fun n hn=>?_⟩
    ·simp only[keysOf,List.mem_cons] at hj
     rcases hj with rfl|hj
     ·exact .inl List.mem_cons_self
     ·exact(h1 j hj).imp (List.mem_cons_of_mem _) id
    ·rcases List.mem_cons.1 hn with rfl|hn
     ·exact⟨Nat.le_of_ble_eq_true hk,by simp[keysOf]⟩
     ·exact⟨(h2 n hn).1,by simp[keysOf,(h2 n hn).2]⟩
   ·split at h
    ·rename_i o ho
     cases h
     refine⟨fun j hj=>?_,fun n hn=>⟨(h2 n hn).1,by simp[keysOf,(h2 n hn).2]⟩⟩
     simp only[keysOf,List.mem_cons] at hj
     rcases hj with rfl|hj
     ·exact .inr (BP.1 ⟨o,ho⟩)
     ·exact h1 j hj
    ·cases h
theorem BQ {dt:List Nat} {j:Nat} : ∀ {H:SH},j∈yE dt H↔j∈keysOf H∧tK j dt=true
 | []=>by simp[yE,keysOf]
 | x::l=>by
  simp only[yE,keysOf]
  cases h:tK x.1 dt with
  | true =>
   simp only[List.mem_cons,BQ (H:=l)]
   constructor
   ·rintro(rfl|h1)
    ·exact⟨.inl rfl,h⟩
    ·exact⟨.inr h1.1,h1.2⟩
   ·rintro⟨rfl|h1,h2⟩
    ·exact .inl rfl
    ·exact .inr ⟨h1,h2⟩
  | false =>
   simp only[List.mem_cons,BQ (H:=l)]
   constructor
   ·rintro⟨h1,h2⟩;exact⟨.inr h1,h2⟩
   ·rintro⟨rfl|h1,h2⟩
    ·rw[h] at h2;cases h2
    ·exact⟨h1,h2⟩
def Gx (s:ry) (f:Nat→Nat) (o:SO):AO:=(⟨SV.rens f o.c,o.t⟩:SO).den s
theorem adu (f:Nat→Nat):∀ c:List SV,BK (SV.rens f c)=BK c
 | []=>rfl
 | [x]=>by cases x<;>rfl
 | x::y::l=>by cases x<;>cases y<;>rfl
theorem adv (f:Nat→Nat):∀ c:List SV,yD (SV.rens f c)=yD c
 | []=>rfl
 | [x]=>by cases x<;>rfl
 | x::y::l=>rfl
theorem U0 (f:Nat→Nat):∀ l:List SV,(SV.rens f l).map Mc=l.map Mc
 | []=>rfl
 | x::l=>by
  rw[SV.rens,List.map_cons,List.map_cons,U0 f l]
  cases x<;>rfl
theorem adw (f:Nat→Nat):∀ c:List SV,yP (SV.rens f c)=yP c
 | []=>rfl
 | [x]=>rfl
 | [x,y]=>rfl
 | x::y::z::l=>by
  have e1:Md (SV.ren f x)=Md x:=by cases x<;>rfl
  have e2:Me (SV.ren f y)=Me y:=by cases y<;>rfl
  have e3:Mf (SV.ren f z)=Mf z:=by cases z<;>rfl
  simp only[SV.rens,yP,U0,e1,e2,e3]
theorem U1 (s:ry) (f:Nat→Nat) (o:SO):Gx s f o=AO.ren f (o.den s):=by
 obtain⟨c,t⟩:=o
 cases t with
 | some t=>unfold Gx SO.den AO.ren;simp only[SV.dens_ren]
 | none =>
  unfold Gx SO.den
  simp only[adu,adv,adw]
  cases yD c with
  | some es=>rfl
  | none=>cases yP c<;>rfl
theorem Eo:∀ {l:SH} {k:Nat} {o:SO},Ej l=true→hget l k=some o→∃ t,o.t=some t
 | [],k,o,_,h=>by cases h
 | x::l,k,o,ha,h=>by
  simp only[Ej] at ha
  simp only[hget] at h
  split at ha
  ·rename_i t ht
   split at h
   ·cases h;exact⟨t,ht⟩
   ·exact Eo ha h
  ·cases ha
theorem U2:∀ (a b:List (Nat×AO)) (H:rf),H.puts (a++b)=(H.puts a).puts b
 | [],b,H=>rfl
 | x::a,b,H=>by rw[List.cons_append,rf.puts,rf.puts,U2 a b]
theorem Qi (s:ry) (f:Nat→Nat) (Hh:SH):∀ (l:List Nat) (H:rf) (j:Nat),(H.puts (sD s (AU f Hh l))) j=match (match tK j l with|true=>hget Hh j|false=>none) with|some o=>some (Gx s f o)|none=>H j
 | [],H,j=>rfl
 | b::l,H,j=>by
  simp only[AU]
  cases ho:hget Hh b with
  | some o =>
   simp only[]
   rw[sD,List.map_cons,rf.puts]
   have ih:=Qi s f Hh l (H.put b (Gx s f o)) j
   rw[sD] at ih
   refine ih.trans ?_
   simp only[tK]
   cases hb:Nat.beq b j with
   | true =>
    have:=sN.1 hb;subst this
    simp only[ho]
    cases tK b l with
    | true=>simp only[ho]
    | false=>simp only[rf.put_same]
   | false =>
    simp only[]
    cases hm:tK j l with
    | true =>
     simp only[]
     cases hget Hh j with
     | some _=>rfl
     | none=>simp only[];exact rf.put_ne _ _ _ (fun e=>by subst e;simp at hb)
    | false=>simp only[];exact rf.put_ne _ _ _ (fun e=>by subst e;simp at hb)
  | none =>
   simp only[]
   refine(Qi s f Hh l H j).trans ?_
   simp only[tK]
   cases hb:Nat.beq b j with
   | true =>
    have:=sN.1 hb;subst this
    simp only[ho]
    cases tK b l<;>simp only[ho]
   | false=>rfl
structure Names (k:Nat) (nw:List Nat) (m:List (Nat×Nat)) (f:Nat→Nat) (src:Nat→Option Nat):Prop where
 old:∀ j,j<k→f j=j
 new:∀ n∈nw,src (f n)=some n
 srcOld:∀ j,j<k→src j=none
 srcNew:∀ j n,src j=some n→n∈nw∧f n=j∧(j=k∨j=k+1)
theorem adx {k:Nat} {nw:List Nat} {m:List (Nat×Nat)} (h:Mr k nw=some m) (hk:∀ n∈nw,k≤n):∃ src,Names k nw m (uE m) src∧∀ (s:ry) (Hh:SH),(∀ n∈nw,∃ o,hget Hh n=some o)→∀ (H:rf) (j:Nat),
  (H.puts (sD s (Ad (uE m) Hh nw))) j=match src j with|some n=>(hget Hh n).map (Gx s (uE m))|none=>H j:=by
 unfold Mr at h
 split at h
 ·cases h
  exact⟨fun _=>none,⟨fun _ _=>rfl,fun n hn=>by simp at hn,fun _ _=>rfl,fun _ _ h=>by cases h⟩,fun s Hh _ H j=>rfl⟩
 ·rename_i n1
  cases h
  have h1:=hk n1 (by simp)
  refine⟨fun j=>if j=k then some n1 else none,⟨?_,?_,?_,?_⟩,?_⟩
  ·intro j hj
   simp only[uE]
   cases hb:Nat.beq n1 j with
   | true=>have:=sN.1 hb;omega
   | false=>rfl
  ·intro n hn
   simp only[List.mem_singleton] at hn;subst hn
   simp[uE]
  ·intro j hj;simp;omega
  ·intro j n hs
   split at hs
   ·rename_i hj;cases hs;subst hj;exact⟨by simp,by simp[uE],.inl rfl⟩
   ·cases hs
  ·intro s Hh hH H j
   obtain⟨o,ho⟩:=hH n1 (by simp)
   simp only[Ad,ho,sD,List.map_cons,List.map_nil,rf.puts]
   have hf:uE [(n1,k)] n1=k:=by simp[uE]
   rw[hf]
   by_cases hj:j=k
   ·subst hj;simp only[if_true,rf.put_same,ho];rfl
   ·simp only[if_neg hj];exact rf.put_ne _ _ _ hj
 ·rename_i n1 n2
  split at h
  ·cases h
  ·rename_i hne
   cases h
   have h1:=hk n1 (by simp);have h2:=hk n2 (by simp)
   have hne':n1≠n2:=fun e=>by subst e;simp at hne
   have f1:uE [(n1,k),(n2,k+1)] n1=k:=by simp[uE]
   have f2:uE [(n1,k),(n2,k+1)] n2=k+1:=by
    simp only[uE,hne];simp
   refine⟨fun j=>if j=k then some n1 else if j=k+1 then some n2 else none,⟨?_,?_,?_,?_⟩,?_⟩
   ·intro j hj
    simp only[uE]
    cases hb:Nat.beq n1 j with
    | true=>have:=sN.1 hb;omega
    | false =>
     simp only[]
     cases hb2:Nat.beq n2 j with
     | true=>have:=sN.1 hb2;omega
     | false=>rfl
   ·intro n hn
    simp only[List.mem_cons,List.not_mem_nil,or_false] at hn
    rcases hn with rfl|rfl
    ·rw[f1];simp
    ·rw[f2];simp
   ·intro j hj
    rw[if_neg (by omega),if_neg (by omega)]
   ·intro j n hs
    split at hs
    ·rename_i hj;cases hs;subst hj;exact⟨by simp,f1,.inl rfl⟩
    ·split at hs
     ·rename_i hj;cases hs;subst hj;exact⟨by simp,f2,.inr rfl⟩
     ·cases hs
   ·intro s Hh hH H j
    obtain⟨o1,ho1⟩:=hH n1 (by simp)
    obtain⟨o2,ho2⟩:=hH n2 (by simp)
    simp only[Ad,ho1,ho2,sD,List.map_cons,List.map_nil,rf.puts,f1,f2]
    by_cases hj:j=k
    ·subst hj
     rw[rf.put_ne _ _ _ (by omega),rf.put_same]
     simp only[if_true,ho1];rfl
    ·by_cases hj2:j=k+1
     ·subst hj2
      rw[rf.put_same]
      simp only[if_neg hj,if_true,ho2];rfl
     ·rw[rf.put_ne _ _ _ hj2,rf.put_ne _ _ _ hj]
      simp only[if_neg hj,if_neg hj2]
 ·cases h
theorem Qj:∀ (l:List SV) (n t:Nat),uR (uS l n) t=match l[t]? with|some x=>if t<n then some x else none|none=>if t<n then some (.v undef) else none
 | [],0,t=>by simp[uS,uR]
 | [],n+1,0=>by simp[uS,uR]
 | [],n+1,t+1=>by
  simp only[uS,uR]
  rw[Qj [] n t];simp
 | x::l,0,t=>by
  simp only[uS,uR]
  cases (x::l)[t]? <;> simp
 | x::l,n+1,0=>by simp[uS,uR]
 | x::l,n+1,t+1=>by
  simp only[uS,uR]
  rw[Qj l n t];simp
theorem J9 (s:ry) (l:List SV) (n:Nat):rO.den s (uS l n)=BB (SV.dens s l) n:=by
 funext t
 unfold rO.den BB
 rw[Qj,SV.dens_map,List.getElem?_map]
 cases l[t]? with
 | some x=>simp only[Option.map_some];split<;>rfl
 | none=>simp only[Option.map_none];split<;>rfl
theorem Ep:∀ (l:List SV) (n:Nat),l.length≤n→(uS l n).length=n
 | [],0,_=>rfl
 | [],n+1,_=>by rw[uS];simp[Ep [] n (by simp)]
 | x::l,0,h=>by simp at h
 | x::l,n+1,h=>by rw[uS];simp[Ep l n (by simpa using h)]
theorem Er {P:Program} {G:rJ} (s:ry) {T:rO} {H:SH} : ∀ {l:List ResultVar} {rs:List SV},vK P T H l=some rs→yx P G (rO.den s T) (SH.den s H) l=some (SV.dens s rs)
 | [],rs,h=>by cases h;rfl
 | .tmp t::l,rs,h=>by
  simp only[vK] at h
  split at h
  ·rename_i x r hx hr
   cases h
   simp only[yx,Er s hr]
   have:rO.den s T t=some (x.den s):=by simp[rO.den,hx]
   rw[this];rfl
  ·cases h
 | .cell a t::l,rs,h=>by
  simp only[vK] at h
  split at h
  ·rename_i b o hx
   split at h
   ·rename_i ob hob
    split at h
    ·rename_i t0 ht0
     split at h
     ·rename_i x r hx2 hr
      cases h
      have:rO.den s T a=some (.loc b o):=by simp[rO.den,hx,SV.den]
      simp only[yx,this,xx,SH.den_get hob ht0,Ee s hx2,Er s hr];rfl
     ·cases h
    ·cases h
   ·cases h
  ·cases h
structure yR (C:sP) (s:ry) (g:FuncId) (args:List SV) (H:SH) (k:Nat) (r:CR):Prop where
 tc:∀ b∈r.tc,SH.den s H b≠none
 ef:∀ x∈sD s r.ef,x.1=k∨x.1=k+1∨x.1∈r.tc
 fc:sQ s r.fc
 ok:∀ w0 B0,DR C.P C.G w0 B0 g (SV.dens s args) (SH.den s H) r.tc k (r.r.den s) (sD s r.ef)
def U3 (H0:SH) (dt:List Nat) (H:SH):Prop:=∀ j,tK j dt=false→hget H j=hget H0 j
def wP (s:ry) (ex:Exit) (st:St):yw:=fun x N T H=>x=ex∧N=st.N∧T=rO.den s st.T∧H=SH.den s st.H
theorem Qk {s:ry} {f:Nat→Nat} {Hh:SH} : ∀ {l:List Nat} {x:Nat×AO},x∈sD s (AU f Hh l)→x.1∈l
 | [],x,h=>by simp[AU,sD] at h
 | b::l,x,h=>by
  simp only[AU] at h
  split at h
  ·rw[sD,List.map_cons] at h
   rcases List.mem_cons.1 h with rfl|h
   ·exact List.mem_cons_self
   ·exact List.mem_cons_of_mem _ (Qk h)
  ·exact List.mem_cons_of_mem _ (Qk h)
theorem Ql {s:ry} {f:Nat→Nat} {Hh:SH} : ∀ {l:List Nat} {x:Nat×AO},x∈sD s (Ad f Hh l)→∃ n∈l,x.1=f n
 | [],x,h=>by simp[Ad,sD] at h
 | b::l,x,h=>by
  simp only[Ad] at h
  split at h
  ·rw[sD,List.map_cons] at h
   rcases List.mem_cons.1 h with rfl|h
   ·exact⟨b,List.mem_cons_self,rfl⟩
   ·obtain⟨n,hn,e⟩:=Ql h;exact⟨n,List.mem_cons_of_mem _ hn,e⟩
  ·obtain⟨n,hn,e⟩:=Ql h;exact⟨n,List.mem_cons_of_mem _ hn,e⟩
theorem U4 {C:sP} {E:sV} {s:ry} {g:FuncId} {fn:Func} {cd:Code} {args:List SV} {H objs:SH} {k:Nat} {ex:Exit} {st:St} {rs:List SV} {R2:SH} {nw:List Nat} {m:List (Nat×Nat)} {fc:Facts}
  (hf:C.P.funcs[g]? = some fn) (hb:fn.body=some cd) (hn:(fn.name == "runtime.NumGoroutine")=false) (hro:reach H (SV.refss args)=some objs) (hl:Nat.ble args.length fn.ntmps=true) (hk:JU k objs=true)
  (hA:∀ w0 B0,AW ⟨C.P,C.G,E,w0,B0,fn.ntmps⟩ cd (wP s ex st) k (rO.den s (uS args fn.ntmps)) (SH.den s objs)) (hex:ex = .normal∨ex = .ret) (hD:U3 objs st.dt st.H) (hfc:sQ s fc)
  (hrs:vK C.P st.T st.H fn.results.toList=some rs) (hR2:reach st.H (SV.refss rs++yE st.dt objs)=some R2) (hw0:Ej objs=true) (hw2:Ej R2=true) (hnw:JS k objs R2=some nw) (hm:Mr k nw=some m) (nv:Nat) :
  yR C s g args H k ⟨(tJ rs).ren (uE m),keysOf objs,AU (uE m) st.H (yE st.dt objs)++Ad (uE m) st.H nw,nv,fc⟩:=by
 have ro:=UY hro
 have r2:=UY hR2
 obtain⟨n1,n2⟩:=UZ hnw
 obtain⟨src,hN,hput⟩:=adx hm (fun n hn=>(n2 n hn).1)
 have hlt:=UX hk
 have hH:∀ j∈keysOf objs,∃ o,hget objs j=some o∧hget H j=some o:=fun j hj=>by
  obtain⟨o,ho⟩:=BP.2 hj;exact⟨o,ho,ro.sub j o ho⟩
 have hden:∀ j∈keysOf objs,SH.den s objs j=SH.den s H j:=fun j hj=>by
  obtain⟨o,h1,h2⟩:=hH j hj;unfold SH.den;rw[h1,h2]
 have hnew:∀ n∈nw,∃ o,hget st.H n=some o∧hget R2 n=some o:=fun n hn=>by
  obtain⟨o,ho⟩:=BP.2 (n2 n hn).2;exact⟨o,r2.sub n o ho,ho⟩
 let sr:Nat→Option Nat:=fun j=>if j∈keysOf objs then some j else src j
 have srk:∀ j∈keysOf objs,sr j=some j:=fun j hj=>if_pos hj
 have srn:∀ r,(r∈nw∨r∈keysOf objs)→sr (uE m r)=some r:=by
  rintro r (hr|hr)
  ·have h1:=hN.new r hr
   have:uE m r∉keysOf objs:=fun hm'=>by
    have:=hN.srcOld _ (hlt _ hm');rw[this] at h1;cases h1
   show(if _ then _ else _)=_
   rw[if_neg this,h1]
  ·rw[hN.old r (hlt r hr)];exact srk r hr
 have clean:∀ j∈keysOf objs,tK j st.dt=false→∃ o,hget st.H j=some o∧hget objs j=some o:=fun j hj hd=>by
  obtain⟨o,h1,_⟩:=hH j hj;exact⟨o,by rw[hD j hd];exact h1,h1⟩
 have cont:∀ j o,hget st.H j=some o→(j∈nw∨j∈keysOf objs)→∀ r∈SV.refss o.c,r∈nw∨r∈keysOf objs:=by
  intro j o ho hj r hr
  have wN:∀ b,b∈keysOf R2→hget st.H b=some o→r∈nw∨r∈keysOf objs:=fun b hbk hb=>by
   obtain⟨o',ho'⟩:=BP.2 hbk
   have:=r2.sub b o' ho';rw[hb] at this;cases this
   exact n1 r (r2.cl b o ho' r hr)
  rcases hj with hj|hj
  ·exact wN j (n2 j hj).2 ho
  ·cases hd:tK j st.dt with
   | true=>exact wN j (r2.all j (List.mem_append_right _ (BQ.2 ⟨hj,hd⟩))) ho
   | false =>
    obtain⟨o',h1,h2⟩:=clean j hj hd
    rw[ho] at h1;cases h1
    exact .inr (ro.cl j o h2 r hr)
 have have':∀ j,(j∈nw∨j∈keysOf objs)→∃ o,hget st.H j=some o:=by
  rintro j (hj|hj)
  ·obtain⟨o,h1,_⟩:=hnew j hj;exact⟨o,h1⟩
  ·cases hd:tK j st.dt with
   | true =>
    obtain⟨o,ho⟩:=BP.2 (r2.all j (List.mem_append_right _ (BQ.2 ⟨hj,hd⟩)))
    exact⟨o,r2.sub j o ho⟩
   | false=>obtain⟨o,h1,_⟩:=clean j hj hd;exact⟨o,h1⟩
 have own':∀ j o,(j∈nw∨j∈keysOf objs)→hget st.H j=some o→∃ t,o.t=some t:=by
  intro j o hj ho
  rcases hj with hj|hj
  ·obtain⟨o',h1,h2⟩:=hnew j hj
   rw[ho] at h1;cases h1
   exact Eo hw2 h2
  ·cases hd:tK j st.dt with
   | true =>
    obtain⟨o',ho'⟩:=BP.2 (r2.all j (List.mem_append_right _ (BQ.2 ⟨hj,hd⟩)))
    have:=r2.sub j o' ho';rw[ho] at this;cases this
    exact Eo hw2 ho'
   | false =>
    obtain⟨o',h1,h2⟩:=clean j hj hd
    rw[ho] at h1;cases h1
    exact Eo hw0 h2
 refine⟨?_,?_,hfc,?_⟩
 ·intro b hb
  obtain⟨o,_,h2⟩:=hH b hb
  unfold SH.den;rw[h2];simp
 ·intro x hx
  rw[sD,List.map_append,← sD,← sD] at hx
  rcases List.mem_append.1 hx with hx|hx
  ·exact .inr (.inr (BQ.1 (Qk hx)).1)
  ·obtain⟨n,hn,e⟩:=Ql hx
   rw[e]
   exact(hN.srcNew _ n (hN.new n hn)).2.2.imp id .inl
 ·intro w0 B0
  rw[SV.den_ren]
  refine adn E (H1:=SH.den s objs) (Hc:=SH.den s st.H) (keysOf objs) k sr (uE m) hf hb hn (by rw[zi];exact hl) ?_ ?_ ?_ ?_ ?_ srk ?_ ?_ ?_ ?_
  ·intro j o hj
   unfold SH.den at hj
   cases hg:hget objs j with
   | none=>rw[hg] at hj;cases hj
   | some o'=>exact BP.1 ⟨o',hg⟩
  ·intro j hj
   obtain⟨o,h1,h2⟩:=hH j hj
   obtain⟨t0,ht0⟩:=Eo hw0 h1
   exact⟨hden j hj,⟨_,_,SH.den_get h2 ht0⟩,hlt j hj⟩
  ·intro j c t hj r hr
   unfold SH.den at hj
   cases hg:hget objs j with
   | none=>rw[hg] at hj;cases hj
   | some o' =>
    rw[hg] at hj
    obtain⟨t0,ht0⟩:=Eo hw0 hg
    rw[Option.map_some,SO.den_own s ht0] at hj
    simp only[Option.some.injEq,AO.own.injEq] at hj
    rw[← hj.1] at hr
    exact ro.cl j o' hg r (SV.dens_refs s _ hr)
  ·intro x hx j hj
   rw[SV.dens_map] at hx
   obtain⟨y,hy,rfl⟩:=List.mem_map.1 hx
   refine ro.all j ?_
   have:j∈AV.refss (SV.dens s args):=AV.mem_refss.2 ⟨_,by rw[SV.dens_map];exact List.mem_map_of_mem hy,hj⟩
   exact SV.dens_refs s args this
  ·intro j n hs
   have key:(n∈nw∨n∈keysOf objs)∧uE m n=j:=by
    by_cases hj:j∈keysOf objs
    ·have:sr j=some j:=srk j hj
     rw[this] at hs;cases hs
     exact⟨.inr hj,hN.old j (hlt j hj)⟩
    ·have:sr j=src j:=if_neg hj
     rw[this] at hs
     obtain⟨h1,h2,_⟩:=hN.srcNew j n hs
     exact⟨.inl h1,h2⟩
   obtain⟨o,ho⟩:=have' n key.1
   obtain⟨t0,ht0⟩:=own' n o key.1 ho
   refine⟨key.2,_,_,SH.den_get ho ht0,fun r hr=>srn r (cont n o ho key.1 r (SV.dens_refs s _ hr))⟩
  ·intro j n hs
   by_cases hj:j∈keysOf objs
   ·exact .inl hj
   ·have:sr j=src j:=if_neg hj
    rw[this] at hs
    exact .inr (hN.srcNew j n hs).2.2
  ·intro j hj
   refine srn j (n1 j (r2.all j (List.mem_append_left _ ?_)))
   have h1:=SV.den_refs s _ hj
   cases rs with
   | nil=>simp[tJ,SV.refs,SV.refss] at h1
   | cons x l=>cases l with
    | nil=>simpa [tJ,SV.refss] using h1
    | cons y l=>exact h1
  ·intro H' hag j
   rw[sD,List.map_append,← sD,← sD,U2,hput s st.H (fun n hn=>(hnew n hn).imp fun o ho=>ho.1),Qi]
   by_cases hj:j∈keysOf objs
   ·have h0:src j=none:=hN.srcOld j (hlt j hj)
    rw[h0,srk j hj]
    simp only
    cases hd:tK j st.dt with
    | true =>
     have:tK j (yE st.dt objs)=true:=J8.2 (BQ.2 ⟨hj,hd⟩)
     rw[this]
     obtain⟨o,ho⟩:=have' j (.inr hj)
     simp only[ho,SH.den,Option.map_some,U1]
    | false =>
     have:tK j (yE st.dt objs)=false:=by
      cases hmn:tK j (yE st.dt objs) with
      | false=>rfl
      | true=>have:=(BQ.1 (J8.1 hmn)).2;rw[hd] at this;cases this
     rw[this]
     obtain⟨o,h1,h2⟩:=clean j hj hd
     obtain⟨o',h3,h4⟩:=hH j hj
     rw[h2] at h3;cases h3
     simp only[]
     rw[hag j hj]
     obtain⟨t0,ht0⟩:=Eo hw0 h2
     simp only[SH.den,h1,h4,Option.map_some,SO.den_own s ht0,AO.ren]
     rw[AV.rens_id _ (fun r hr=>hN.old r (hlt r (ro.cl j o h2 r (SV.dens_refs s _ hr))))]
   ·have h0:sr j=src j:=if_neg hj
    rw[h0]
    cases hs:src j with
    | some n =>
     simp only
     obtain⟨o,ho⟩:=have' n (.inl (hN.srcNew j n hs).1)
     simp only[ho,SH.den,Option.map_some,U1]
    | none =>
     simp only
     have:tK j (yE st.dt objs)=false:=by
      cases hmn:tK j (yE st.dt objs) with
      | false=>rfl
      | true=>exact absurd (BQ.1 (J8.1 hmn)).1 hj
     rw[this]
  ·intro w1 B
   have:=hA w1 B
   rw[J9] at this
   refine this.mono ?_
   rintro x N T Hx ⟨rfl,rfl,rfl,rfl⟩
   have hres:=Er (G:=C.G) s hrs
   rcases hex with rfl|rfl
   ·exact⟨_,hres,Gv s rs,rfl⟩
   ·exact⟨_,hres,Gv s rs,rfl⟩
open Go.RowKit
def Qm (w:World) (k:VK) (n:Int) (v:Value):Prop:=match k with
 | .nat=>Reads w v (zY n.toNat) (BJ n.toNat)
 | k=>v=tH k n
def uJ (w:World):List VK→List Int→List Value→Prop
 | [],[],[]=>True
 | k::ks,n::ns,v::vs=>Qm w k n v∧uJ w ks ns vs
 | _,_,_=>False
def Ka (h:Sh) (vs:List Value):Value:=match h with
 | .sc _=>vs.headD undef
 | .agg l=>.agg (vs.take l.length).toArray
def Es:List Sh→List Value→List Value
 | [],_=>[]
 | h::hs,vs=>Ka h vs::Es hs (vs.drop h.kinds.length)
def MB (P:Program) (G:rJ) (g:FuncId) (ct:Ct) (l r:List Int):Prop:=∀ w fvs,Gl G w→uJ w (q9 ct.a) l fvs→wM P g (Es ct.a fvs).toArray w fun e w' =>
 ∃ fus,e = .returned (sS (Es ct.r fus))∧uJ w' (q9 ct.r) r fus∧(∀ u∈fus,∀ b,wL u=some b→w.heap.size≤b∨∃ v∈fvs,wL v=some b)∧q8 w w'
theorem uJ.len {w:World} : ∀ {ks:List VK} {ns:List Int} {vs:List Value},uJ w ks ns vs→ns.length=ks.length∧vs.length=ks.length
 | [],[],[],_=>⟨rfl,rfl⟩
 | k::ks,n::ns,v::vs,h=>by obtain⟨h1,h2⟩:=uJ.len h.2;exact⟨by simp[h1],by simp[h2]⟩
 | [],_::_,_,h=>h.elim
 | [],[],_::_,h=>h.elim
 | _::_,[],_,h=>h.elim
 | _::_,_::_,[],h=>h.elim
theorem U5 {w:World} {v:Value} {n:Nat} {c:List Value} (h:Reads w v n c):zA v=v:=by
 rcases h with⟨h1,_⟩|⟨b',o,cap,h1,_⟩<;>rw[h1]<;>rfl
theorem ady {k:VK} {n:Int} (h:nN k=0):wL (tH k n)=none:=by
 cases k<;>first|rfl|cases h
theorem uJ.append {w:World} : ∀ {ks js:List VK} {ns ms:List Int} {vs us:List Value},uJ w ks ns vs→uJ w js ms us→uJ w (ks++js) (ns++ms) (vs++us)
 | [],js,[],ms,[],us,_,h=>h
 | k::ks,js,n::ns,ms,v::vs,us,h,h'=>⟨h.1,uJ.append h.2 h'⟩
 | [],_,_::_,_,_,_,h,_=>h.elim
 | [],_,[],_,_::_,_,h,_=>h.elim
 | _::_,_,[],_,_,_,h,_=>h.elim
 | _::_,_,_::_,_,[],_,h,_=>h.elim
structure BR (w0:World) (B0:sw) (e:Env) (H:rf) (v:Value):Prop where
 ap:∀ b,wL v=some b→∀ j c t,H j=some (.own c t)→b≠e.blk j
 new:∀ b,wL v=some b→w0.heap.size≤b∨∃ j∈B0.dom,wL (B0.env.hnd j)=some b
section
variable {G:rJ} {w0:World} {B0:sw} {e:Env} {H':rf} {w:World} {s:ry} {H:SH}
theorem U6 {v:Value} (h:wL v=none):BR w0 B0 e H' v:=⟨fun b hb=>(by rw[h] at hb;cases hb),fun b hb=>(by rw[h] at hb;cases hb)⟩
theorem U7 (R:rQ G w0 B0 e H' w) {k:VK} {x:SV} {a:X} (h:Gs H k x=some a) (hag:∀ b∈x.refs,H' b=SH.den s H b) :
  ∃ v,(x.den s).val e=v∧Qm w k (a.den s) v∧BR w0 B0 e H' v:=by
 have plain:∀ k,nN k=0→Ab k x=some a→∃ v,(x.den s).val e=v∧v=tH k (a.den s)∧BR w0 B0 e H' v:=fun k hk h=>by
  refine⟨_,rfl,?_,?_⟩
  ·rw[Mv s h];rfl
  ·rw[Mv s h];exact U6 (ady hk)
 cases k with
 | int k=>exact plain _ rfl h
 | bool=>exact plain _ rfl h
 | bit=>exact plain _ rfl h
 | nat =>
  simp only[Gs] at h
  split at h
  ·rename_i j
   split at h
   ·rename_i o ho
    split at h
    ·rename_i ht
     obtain⟨kd,x,hc,rfl⟩:∃ kd x,o.c = [.int kd x]∧a=x:=by
      split at h
      ·rename_i kd x hc;cases h;exact⟨kd,_,hc,rfl⟩
      ·cases h
     have hj:H' j=some (.rd (zY (X.den s a).toNat) (BJ (X.den s a).toNat)):=by
      have:=SH.den_nat (s:=s) ho ht (by rw[hc];rfl) (by rw[hc];rfl)
      rw[hag j (by simp[SV.refs]),this,hc];rfl
     have hr:=R.rd j _ _ hj
     refine⟨e.hnd j,?_,hr,?_,?_⟩
     ·simp only[SV.den,AV.val];exact U5 hr
     ·intro b hb i c t hi he
      exact R.apart j _ _ i c t hj hi (by rw[hb,he])
     ·intro b hb;exact R.new j _ _ hj b hb
    ·cases h
   ·cases h
  ·cases h
   refine⟨.slice none 0 0,rfl,?_,U6 rfl⟩
   exact .inl ⟨rfl,rfl,rfl⟩
  ·cases h
theorem Qn (R:rQ G w0 B0 e H' w):∀ {ks:List VK} {xs:List SV} {l:List X},El H ks xs=some l→(∀ b∈SV.refss xs,H' b=SH.den s H b) →
  ∃ fvs,AV.vals e (SV.dens s xs)=fvs∧uJ w ks (l.map (X.den s)) fvs∧∀ v∈fvs,BR w0 B0 e H' v
 | [],[],l,h,_=>by cases h;exact⟨[],rfl,trivial,fun v hv=>by cases hv⟩
 | k::ks,x::xs,l,h,hag=>by
  simp only[El] at h
  split at h
  ·rename_i a l' ha hl
   cases h
   obtain⟨fvs,h1,h2,h3⟩:=Qn R hl (fun b hb=>hag b (by rw[SV.refss];exact List.mem_append_right _ hb))
   obtain⟨v,h4,h5,h6⟩:=U7 R ha (fun b hb=>hag b (by rw[SV.refss];exact List.mem_append_left _ hb))
   refine⟨v::fvs,by rw[SV.dens,AV.vals,h1,h4],⟨h5,h2⟩,fun u hu=>?_⟩
   rcases List.mem_cons.1 hu with rfl|hu
   ·exact h6
   ·exact h3 u hu
  ·cases h
 | [],_::_,l,h,_=>by cases h
 | _::_,[],l,h,_=>by cases h
theorem adz (R:rQ G w0 B0 e H' w) {sh:Sh} {x:SV} {l:List X} (h:JW H sh x=some l) (hag:∀ b∈x.refs,H' b=SH.den s H b) :
  ∃ fvs,(∀ us,(x.den s).val e=Ka sh (fvs++us))∧uJ w sh.kinds (l.map (X.den s)) fvs∧∀ v∈fvs,BR w0 B0 e H' v:=by
 unfold JW at h
 split at h
 ·split at h
  ·rename_i a ha
   cases h
   obtain⟨v,h1,h2,h3⟩:=U7 R ha hag
   exact⟨[v],fun us=>h1,⟨h2,trivial⟩,fun u hu=>by simp at hu;subst hu;exact h3⟩
  ·cases h
 ·rename_i ks xs
  obtain⟨fvs,h1,h2,h3⟩:=Qn R h (fun b hb=>hag b (by rw[SV.refs];exact hb))
  refine⟨fvs,fun us=>?_,h2,h3⟩
  rw[SV.den,Jm,h1]
  simp only[Ka]
  rw[List.take_append_of_le_length (by rw[(uJ.len h2).2];exact Nat.le_refl _),List.take_of_length_le (by rw[(uJ.len h2).2];exact Nat.le_refl _)]
 ·rename_i ks cs
  have hrf:∀ l:List Value,SV.refss (l.map xm) = []:=fun l=>by
   induction l with
   | nil=>rfl
   | cons x l ih=>rw[List.map_cons,SV.refss,ih];cases x<;>rfl
  obtain⟨fvs,h1,h2,h3⟩:=Qn R h (fun b hb=>by rw[hrf] at hb;cases hb)
  refine⟨fvs,fun us=>?_,h2,h3⟩
  rw[zI,vE] at h1
  simp only[SV.den,AV.val,Ka]
  rw[List.take_append_of_le_length (by rw[(uJ.len h2).2];exact Nat.le_refl _),List.take_of_length_le (by rw[(uJ.len h2).2];exact Nat.le_refl _),← h1]
 ·cases h
theorem U8 (R:rQ G w0 B0 e H' w):∀ {hs:List Sh} {xs:List SV} {l:List X},Gt H hs xs=some l→(∀ b∈SV.refss xs,H' b=SH.den s H b) →
  ∃ fvs,AV.vals e (SV.dens s xs)=Es hs fvs∧uJ w (q9 hs) (l.map (X.den s)) fvs∧∀ v∈fvs,BR w0 B0 e H' v
 | [],[],l,h,_=>by cases h;exact⟨[],rfl,trivial,fun v hv=>by cases hv⟩
 | sh::hs,x::xs,l,h,hag=>by
  simp only[Gt] at h
  split at h
  ·rename_i a l' ha hl
   cases h
   obtain⟨fvs,h1,h2,h3⟩:=U8 R hl (fun b hb=>hag b (by rw[SV.refss];exact List.mem_append_right _ hb))
   obtain⟨gvs,h4,h5,h6⟩:=adz R ha (fun b hb=>hag b (by rw[SV.refss];exact List.mem_append_left _ hb))
   refine⟨gvs++fvs,?_,?_,fun u hu=>?_⟩
   ·rw[SV.dens,AV.vals,h1,h4 fvs,Es,List.drop_append_of_le_length (by rw[(uJ.len h5).2];exact Nat.le_refl _),List.drop_of_length_le (by rw[(uJ.len h5).2];exact Nat.le_refl _)];rfl
   ·have hk:q9 (sh::hs)=sh.kinds++q9 hs:=by simp[q9]
    rw[hk,List.map_append]
    exact uJ.append h5 h2
   ·rcases List.mem_append.1 hu with hu|hu
    ·exact h6 u hu
    ·exact h3 u hu
  ·cases h
 | [],_::_,l,h,_=>by cases h
 | _::_,[],l,h,_=>by cases h
theorem adA {k:VK} {x:SV} {a:X} (h:Ab k x=some a):x.refs = []:=by
 unfold Ab at h
 split at h<;>first|rfl|cases h
theorem adB {b:Nat} {o:SO} (h:hget H b=some o):SH.den s H b≠none:=by unfold SH.den;rw[h];simp
theorem U9 {k:VK} {x:SV} {a:X} (h:Gs H k x=some a):∀ b∈x.refs,SH.den s H b≠none:=by
 have plain:∀ k,Ab k x=some a→∀ b∈x.refs,SH.den s H b≠none:=fun k h b hb=>by rw[adA h] at hb;cases hb
 cases k with
 | int k=>exact plain _ h
 | bool=>exact plain _ h
 | bit=>exact plain _ h
 | nat =>
  simp only[Gs] at h
  split at h
  ·rename_i j
   split at h
   ·rename_i o ho
    intro b hb
    simp[SV.refs] at hb;subst hb
    exact adB ho
   ·cases h
  ·intro b hb;simp[SV.refs] at hb
  ·cases h
theorem Va:∀ {ks:List VK} {xs:List SV} {l:List X},El H ks xs=some l→∀ b∈SV.refss xs,SH.den s H b≠none
 | [],[],l,h,b,hb=>by simp[SV.refss] at hb
 | k::ks,x::xs,l,h,b,hb=>by
  simp only[El] at h
  split at h
  ·rename_i a l' ha hl
   rw[SV.refss] at hb
   rcases List.mem_append.1 hb with hb|hb
   ·exact U9 ha b hb
   ·exact Va hl b hb
  ·cases h
 | [],_::_,l,h,_,_=>by cases h
 | _::_,[],l,h,_,_=>by cases h
theorem adC {sh:Sh} {x:SV} {l:List X} (h:JW H sh x=some l):∀ b∈x.refs,SH.den s H b≠none:=by
 unfold JW at h
 split at h
 ·split at h
  ·rename_i a ha;exact U9 ha
  ·cases h
 ·exact fun b hb=>Va h b (by simpa [SV.refs] using hb)
 ·intro b hb;simp[SV.refs] at hb
 ·cases h
theorem Vb:∀ {hs:List Sh} {xs:List SV} {l:List X},Gt H hs xs=some l→∀ b∈SV.refss xs,SH.den s H b≠none
 | [],[],l,h,b,hb=>by simp[SV.refss] at hb
 | sh::hs,x::xs,l,h,b,hb=>by
  simp only[Gt] at h
  split at h
  ·rename_i a l' ha hl
   rw[SV.refss] at hb
   rcases List.mem_append.1 hb with hb|hb
   ·exact adC ha b hb
   ·exact Vb hl b hb
  ·cases h
 | [],_::_,l,h,_,_=>by cases h
 | _::_,[],l,h,_,_=>by cases h
theorem Vd (k:VK):(k = .nat∧nN k=1)∨(nN k=0∧(∀ x h,JX k x h=Ac k x)∧∀ (w:World) n v,Qm w k n v↔v=tH k n):=by
 cases k<;>first|exact .inl ⟨rfl,rfl⟩|exact .inr ⟨rfl,fun _ _=>rfl,fun _ _ _=>Iff.rfl⟩
theorem Ve {x:X} {ks:List VK} {xs:List X} {h:Nat} : xW (.nat::ks) (x::xs) h=(h,⟨[.int .u64 x],none⟩)::xW ks xs (h+1):=by simp only[xW,tZ]
theorem Vf {k:VK} (hk:nN k=0) {x:X} {ks:List VK} {xs:List X} {h:Nat} : xW (k::ks) (x::xs) h=xW ks xs h:=by
 cases k<;>first|rfl|cases hk
theorem Qo:∀ {ks:List VK} {xs:List X} {h:Nat} {y:Nat×SO},y∈xW ks xs h→h≤y.1∧y.1<h+yQ ks
 | [],xs,h,y,hy=>by simp[xW] at hy
 | k::ks,[],h,y,hy=>by simp[xW] at hy
 | k::ks,x::xs,h,y,hy=>by
  rcases Vd k with⟨rfl,h1⟩|⟨h1,_⟩
  ·rw[Ve] at hy
   rw[yQ,h1]
   rcases List.mem_cons.1 hy with rfl|hy
   ·exact⟨Nat.le_refl _,by omega⟩
   ·have:=Qo hy;omega
  ·rw[Vf h1] at hy
   have:=Qo hy
   rw[yQ];omega
theorem Env.on.trans' {H1 H2:rf} {e e1 e2:Env} (h1:Env.on H1 e e1) (h2:Env.on H2 e1 e2) (hs:∀ k,H1 k≠none→H2 k≠none):Env.on H1 e e2:=fun k hk =>
 ⟨(h2 k (hs k hk)).1.trans (h1 k hk).1,(h2 k (hs k hk)).2.trans (h1 k hk).2⟩
theorem Qp:∀ {ks:List VK} {xs:List X} {ns:List Int} {fus:List Value} {h:Nat} {e:Env} {H':rf},rQ G w0 B0 e H' w→xs.map (X.den s)=uW ks ns→uJ w ks ns fus→(∀ u∈fus,BR w0 B0 e H' u) →
  (∀ j,h≤j→j<h+yQ ks→H' j=none)→∃ e',rQ G w0 B0 e' (H'.puts (sD s (xW ks xs h))) w∧Env.on H' e e'∧AV.vals e' (SV.dens s (uT ks xs h))=fus∧∀ c∈SV.refss (uT ks xs h),(H'.puts (sD s (xW ks xs h))) c≠none
 | [],xs,ns,fus,h,e,H',R,hx,hf,hg,hn=>by
  obtain⟨l1,l2⟩:=uJ.len hf
  have:fus = []:=List.eq_nil_of_length_eq_zero l2
  subst this
  have hu:uT [] xs h = []:=by cases xs<;>rfl
  have he:xW [] xs h = []:=by cases xs<;>rfl
  rw[hu,he]
  exact⟨e,R,Env.on.refl _ _,rfl,fun c hc=>by cases hc⟩
 | k::ks,[],ns,fus,h,e,H',R,hx,hf,hg,hn=>by
  obtain⟨l1,l2⟩:=uJ.len hf
  cases ns with
  | nil=>simp at l1
  | cons n ns=>simp[uW] at hx
 | k::ks,x::xs,[],fus,h,e,H',R,hx,hf,hg,hn=>by simp[uW] at hx
 | k::ks,x::xs,n::ns,[],h,e,H',R,hx,hf,hg,hn=>hf.elim
 | k::ks,x::xs,n::ns,u::fus,h,e,H',R,hx,hf,hg,hn=>by
  simp only[List.map_cons,uW,List.cons.injEq] at hx
  rcases Vd k with⟨rfl,h1⟩|⟨h1,h2,h3⟩
  ·rw[yQ,h1] at hn
   have hk:H' h=none:=hn h (Nat.le_refl _) (by omega)
   have gu:=hg u List.mem_cons_self
   have hr:Reads w u (zY n.toNat) (BJ n.toNat):=hf.1
   have hxn:((x.den s).toNat:Nat)=n.toNat:=by rw[hx.1];rfl
   have R1:=R.handle hk hr (fun j c t hj he=>gu.ap _ he j c t hj rfl) gu.new
   have hon1:=Env.setHnd_on hk e u
   have hsz:∀ {v:Value},BR w0 B0 e H' v→BR w0 B0 (e.setHnd h u) (H'.put h (.rd (zY n.toNat) (BJ n.toNat))) v:=fun {v} g=>⟨fun b hb j c t hj=>by
    rcases rf.put_eq hj with⟨_,he⟩|⟨_,hj⟩
    ·cases he
    ·exact g.ap b hb j c t hj,g.new⟩
   obtain⟨e',R',o',v',c'⟩:=Qp (h:=h+1) R1 hx.2 hf.2 (fun v hv=>hsz (hg v (List.mem_cons_of_mem _ hv))) (fun j h4 h5=>by rw[rf.put_ne _ _ _ (by omega)];exact hn j (by omega) (by omega))
   have hd:∀ j,H' j≠none→(H'.put h (.rd (zY n.toNat) (BJ n.toNat))) j≠none:=fun j hj=>rf.put_dom _ _ _ hj
   have hef:sD s (xW (.nat::ks) (x::xs) h)=(h,.rd (zY n.toNat) (BJ n.toNat))::sD s (xW ks xs (h+1)):=by
    rw[Ve]
    simp only[sD,List.map_cons,SO.den,yD,Po,yP,BK,hxn]
   rw[hef]
   refine⟨e',R',hon1.trans' o' hd,?_,?_⟩
   ·rw[uT,SV.dens,AV.vals,h1,v']
    congr 1
    show zA (e'.hnd h)=u
    rw[(o' h (by rw[rf.put_same];simp)).2]
    show zA (if h=h then u else e.hnd h)=u
    rw[if_pos rfl];exact U5 hr
   ·intro c hc
    rw[uT,SV.refss,h1] at hc
    rcases List.mem_append.1 hc with hc|hc
    ·simp[JX,SV.refs] at hc
     subst hc
     rw[rf.puts]
     exact rf.puts_dom (by rw[rf.put_same];simp)
    ·exact c' c hc
  ·rw[yQ,h1,Nat.zero_add] at hn
   obtain⟨e',R',o',v',c'⟩:=Qp (h:=h) R hx.2 hf.2 (fun v hv=>hg v (List.mem_cons_of_mem _ hv)) hn
   rw[Vf h1]
   refine⟨e',R',o',?_,?_⟩
   ·rw[uT,SV.dens,AV.vals,h1,Nat.add_zero,v',h2,Mw hx.1]
    congr 1
    exact((h3 w n u).1 hf.1).symm
   ·intro c hc
    rw[uT,SV.refss,h1,Nat.add_zero,h2] at hc
    rcases List.mem_append.1 hc with hc|hc
    ·cases k<;>simp[Ac,SV.refs] at hc
    ·exact c' c hc
theorem Qq:∀ (ks js:List VK) (xs:List X) (h:Nat),ks.length≤xs.length→uT (ks++js) xs h=uT ks xs h++uT js (xs.drop ks.length) (h+yQ ks)
 | [],js,xs,h,_=>by cases xs<;>rfl
 | k::ks,js,[],h,hl=>by simp at hl
 | k::ks,js,x::xs,h,hl=>by
  rw[List.cons_append,uT,uT,Qq ks js xs _ (by simpa using hl),yQ,Nat.add_assoc];rfl
theorem Vg:∀ (ks:List VK) (xs:List X) (h:Nat),xs.length=ks.length→(uT ks xs h).length=ks.length
 | [],xs,h,_=>by cases xs<;>rfl
 | k::ks,[],h,hl=>by simp at hl
 | k::ks,x::xs,h,hl=>by rw[uT,List.length_cons,Vg ks xs _ (by simpa using hl),List.length_cons]
theorem Vh:∀ (ks:List VK) (xs:List X) (h:Nat),uT ks (xs.take ks.length) h=uT ks xs h
 | [],xs,h=>by cases xs<;>rfl
 | k::ks,[],h=>rfl
 | k::ks,x::xs,h=>by rw[List.length_cons,List.take_succ_cons,uT,Vh ks xs,uT]
theorem Vi (e:Env):∀ (hs:List Sh) (xs:List X) (h:Nat),xs.length=(q9 hs).length→AV.vals e (SV.dens s (Em hs xs h))=Es hs (AV.vals e (SV.dens s (uT (q9 hs) xs h)))
 | [],xs,h,_=>rfl
 | sh::hs,xs,h,hl=>by
  have hk:q9 (sh::hs)=sh.kinds++q9 hs:=by simp[q9]
  rw[hk,List.length_append] at hl
  have hle:sh.kinds.length≤xs.length:=by omega
  have h1:(uT sh.kinds xs h).length=sh.kinds.length:=by
   rw[← Vh];exact Vg _ _ _ (by rw[List.length_take];omega)
  have h2:(AV.vals e (SV.dens s (uT sh.kinds xs h))).length=sh.kinds.length:=by rw[zf,zi,h1]
  rw[Em,SV.dens,AV.vals,Vi e hs _ _ (by rw[List.length_drop];omega),hk,Qq _ _ _ _ hle,CZ,Jq,Es]
  congr 1
  ·cases sh with
   | sc k =>
    match xs,hle with
    | x::xs,_=>rfl
   | agg l =>
    simp only[P7,SV.den,Jm,Ka]
    rw[List.take_append_of_le_length (by rw[h2];exact Nat.le_refl _),List.take_of_length_le (by rw[h2];exact Nat.le_refl _)];rfl
  ·have d:∀ (a b:List Value) (n:Nat),a.length=n→(a++b).drop n=b:=fun a b n hn=>by subst hn;simp
   rw[d _ _ _ h2]
theorem Vj {c:Nat} : ∀ {hs:List Sh} {xs:List X} {h:Nat},xs.length=(q9 hs).length→c∈SV.refss (Em hs xs h)→c∈SV.refss (uT (q9 hs) xs h)
 | [],xs,h,_,hc=>by simp[Em,SV.refss] at hc
 | sh::hs,xs,h,hl,hc=>by
  have hk:q9 (sh::hs)=sh.kinds++q9 hs:=by simp[q9]
  rw[hk,List.length_append] at hl
  have hle:sh.kinds.length≤xs.length:=by omega
  have happ:∀ (a b:List SV),SV.refss (a++b)=SV.refss a++SV.refss b:=fun a b=>by
   induction a with
   | nil=>rfl
   | cons x a ih=>rw[List.cons_append,SV.refss,ih,SV.refss,List.append_assoc]
  rw[hk,Qq _ _ _ _ hle,happ]
  rw[Em,SV.refss] at hc
  rcases List.mem_append.1 hc with hc|hc
  ·refine List.mem_append_left _ ?_
   cases sh with
   | sc k =>
    match xs,hle with
    | x::xs,_ =>
     have e:uT (Sh.sc k).kinds (x::xs) h = [JX k x h]:=by cases xs<;>rfl
     rw[e];simpa [SV.refss,P7] using hc
   | agg l=>exact hc
  ·exact List.mem_append_right _ (Vj (by rw[List.length_drop];omega) hc)
theorem adD (e:Env) (l:List SV):((tJ l).den s).val e=sS (AV.vals e (SV.dens s l)):=by
 match l with
 | []=>simp only[tJ,SV.den,SV.dens,N9];rfl
 | [x]=>rfl
 | x::y::l=>simp only[tJ,SV.den,N9,SV.dens,AV.vals,sS]
theorem adE {l:List SV} {c:Nat} (h:c∈(tJ l).refs):c∈SV.refss l:=by
 match l,h with
 | [],h=>exact h
 | [x],h=>simpa [tJ,SV.refss] using h
 | x::y::l,h=>exact h
end
def MC (P:Program) (G:rJ) (g:FuncId) (c:vJ) (l r:List Int):Prop:=∀ w b,Gl G w→(∀ x∈G,x.1≠b)→w.heap[b]? = some (.cells (sK c.ks (l.drop (q9 c.a).length)).toArray c.t (0,0)) →
 wM P g (rT c.a l ++ [Value.slice (some ⟨b,0,none⟩) c.n c.n]).toArray w fun e w'=>e = .returned (sS (rT c.r r))∧q8 w w'
theorem Vk {s:ry} : ∀ {l:List SV} {r:UN},JY l=some r→l=r.i ++ [.sl r.b r.o r.n r.m]
 | [],r,h=>by cases h
 | [x],r,h=>by
  simp only[JY] at h
  split at h
  ·cases h;rfl
  ·cases h
 | x::y::l,r,h=>by
  simp only[JY] at h
  split at h
  ·rename_i r' hr
   cases h
   have:=Vk (s:=s) hr
   rw[this];rfl
  ·cases h
theorem Vl:∀ {L:List vJ} {n m:Nat} {t:TypeId} {c:vJ},Mt L n m t=some c→c∈L∧c.n=n∧c.n=m∧c.t=t
 | [],n,m,t,c,h=>by cases h
 | x::L,n,m,t,c,h=>by
  simp only[Mt] at h
  split at h
  ·rename_i h1 h2 h3
   cases h
   exact⟨List.mem_cons_self,sN.1 h1,sN.1 h2,sN.1 h3⟩
  ·obtain⟨h1,h2⟩:=Vl h
   exact⟨List.mem_cons_of_mem _ h1,h2⟩
theorem Qr:∀ (hs:List Sh) (p q:List Int),p.length=(q9 hs).length→rT hs (p++q)=rT hs p
 | [],p,q,_=>rfl
 | h::hs,p,q,hl=>by
  have hk:q9 (h::hs)=h.kinds++q9 hs:=by simp[q9]
  rw[hk,List.length_append] at hl
  have h1:(p++q).take h.kinds.length=p.take h.kinds.length:=by rw[List.take_append_of_le_length (by omega)]
  have e1:uf h (p++q)=uf h p:=by
   have a1:=Qa h (p.take h.kinds.length) (p.drop h.kinds.length++q) (by rw[List.length_take];omega)
   have a2:=Qa h (p.take h.kinds.length) (p.drop h.kinds.length) (by rw[List.length_take];omega)
   rw[← List.append_assoc,List.take_append_drop] at a1
   rw[List.take_append_drop] at a2
   rw[a1,a2]
  rw[rT,rT,e1,List.drop_append_of_le_length (by omega),Qr hs _ q (by rw[List.length_drop];omega)]
theorem adF {C:sP} {s:ry} {g:FuncId} {L:List vJ}
  (hct:∀ c∈L,∀ l:List Int,l.length=(q9 c.a++c.ks).length→(C.Φ c.id l).length=(q9 c.r).length→MC C.P C.G g c l (C.Φ c.id l))
  {args:List SV} {H:SH} {k nv:Nat} {fc:Facts} {K:Unit→qZ CR} {r:CR} (h:(P9 C L args H nv fc K).path C.Φ s=some r) (hfc:sQ s fc) (hK:(K ()).path C.Φ s=some r→yR C s g args H k r):yR C s g args H k r:=by
 unfold P9 at h
 split at h
 ·exact hK h
 rename_i q hq
 split at h
 ·exact hK h
 rename_i o ho
 split at h
 ·exact hK h
 rename_i t ht
 split at h
 ·exact hK h
 rename_i c hc
 split at h
 ·rename_i xs ys h0 hxs hys
  obtain⟨m1,m2,m3,m4⟩:=Vl hc
  have h0:=sN.1 h0
  obtain⟨a1,a2⟩:=Db s hxs
  obtain⟨b1,b2⟩:=J6 s hys
  have hargs:=Vk (s:=s) hq
  have hlen:((xs++ys).map (X.den s)).length=(q9 c.a++c.ks).length:=by simp[a2,b2]
  have hS:=hct c m1 _ hlen
  have fin:(C.Φ c.id ((xs++ys).map (X.den s))).length=(q9 c.r).length→∀ l:List SV,SV.dens s l=(rT c.r (C.Φ c.id ((xs++ys).map (X.den s)))).map .v→yR C s g args H k ⟨tJ l,[q.b],[],r.nv,fc⟩:=fun hln l hd=>by
   refine⟨fun b hb=>?_,fun x hx=>by simp[sD] at hx,hfc,fun w0 B0=>?_⟩
   ·simp at hb;subst hb;unfold SH.den;rw[ho];simp
   ·intro H' e w hag hk0 hk1 hrefs R
    have hb:H' q.b=some (.own (SV.dens s o.c) t):=by rw[hag q.b (by simp)];exact SH.den_get ho ht
    have hown:=R.own q.b _ t hb
    rw[b1,vE] at hown
    have hd1:(sK c.ks (((xs++ys).map (X.den s)).drop (q9 c.a).length))=sK c.ks (ys.map (X.den s)):=by
     rw[List.map_append,List.drop_append_of_le_length (by simp[a2]),List.drop_of_length_le (by simp[a2])];rfl
    have hcall:=hS hln w (e.blk q.b) R.gl (fun x hx=>R.glo q.b _ t hb x hx) (by rw[hd1,m4];exact hown)
    have hv:AV.vals e (SV.dens s args)=rT c.a ((xs++ys).map (X.den s)) ++ [Value.slice (some ⟨e.blk q.b,0,none⟩) c.n c.n]:=by
     rw[hargs,CZ,Jq,a1,vE,List.map_append,Qr _ _ _ (by simp[a2])]
     simp only[SV.dens,SV.den,AV.vals,AV.val,h0]
     rw[← m2,← m3]
    rw[hv]
    refine hcall.mono ?_
    rintro en w' ⟨rfl,hB⟩
    refine⟨e,?_,R.below hB,Env.on.refl H' e,fun j hj=>?_⟩
    ·rw[Qf hd];rfl
    ·rw[Qf hd] at hj;simp[AV.refs] at hj
  split at h
  ·rename_i ns hns
   split at h
   ·rename_i hq
    have hq:=sN.1 hq
    rw[Qb] at h
    cases h
    have e:=Qe s hns
    refine fin (by rw[e];exact hq) _ ?_
    rw[e]
    exact BO (Qc s _ _) (Qd _ _ hq)
   ·cases h
  ·simp only[qZ.path] at h
   split at h
   ·rename_i hce
    rw[tZ] at h
    cases h
    unfold Ec at hce
    refine fin (by rw[← hce];exact BG _ _ _) _ ?_
    obtain⟨h1,h2⟩:=AX s (q9 c.r) nv
    rw[hce] at h1
    exact BO h1 h2
   ·cases h
 ·exact hK h
theorem adG {C:sP} {s:ry} {ct:Ct} {g:FuncId} (h2:yQ (q9 ct.r)≤2)
  (hct:∀ l:List Int,l.length=(q9 ct.a).length→(C.Φ g l).length=(q9 ct.r).length→MB C.P C.G g ct l (C.Φ g l))
  {args:List SV} {H:SH} {k nv:Nat} {fc:Facts} {r:CR} (h:(P8 C ct g args H k nv fc).path C.Φ s=some r) (hfc:sQ s fc):yR C s g args H k r:=by
 unfold P8 at h
 split at h
 ·cases h
 ·rename_i xs hxs
  simp only[qZ.path] at h
  split at h
  ·rename_i hce
   rw[tZ] at h
   cases h
   obtain⟨v1,v2⟩:=AX s (q9 ct.r) nv
   unfold Ec at hce
   have hln:(C.Φ g (xs.map (X.den s))).length=(q9 ct.r).length:=by rw[← hce];exact BG _ _ _
   rw[hce] at v1
   refine⟨Vb hxs,fun x hx=>?_,hfc,fun w0 B0=>?_⟩
   ·rw[sD] at hx
    obtain⟨y,hy,rfl⟩:=List.mem_map.1 hx
    have:=Qo hy
    show y.1=k∨y.1=k+1∨_
    omega
   ·intro H' e w hag hk0 hk1 hrefs R
    obtain⟨fvs,a1,a2,a3⟩:=U8 (s:=s) R hxs hag
    have hl:(xs.map (X.den s)).length=(q9 ct.a).length:=(uJ.len a2).1
    have hcc:=hct _ hl hln w fvs R.gl a2
    rw[a1]
    refine hcc.mono ?_
    rintro en w' ⟨fus,rfl,b2,b3,hB⟩
    have R':=R.below hB
    have hlen:=(uJ.len b2).1
    obtain⟨e',c1,c2,c3,c4⟩:=Qp (s:=s) (h:=k) R' v1 b2 (fun u hu=>⟨fun b hb j c t hj he=>by
     rcases b3 u hu b hb with hlt|⟨v,hv,hvb⟩
     ·have:=R.lt hj;omega
     ·exact(a3 v hv).ap b hvb j c t hj he,fun b hb=>by
     rcases b3 u hu b hb with hlt|⟨v,hv,hvb⟩
     ·exact .inl (Nat.le_trans R.size hlt)
     ·exact(a3 v hv).new b hvb⟩) (fun j h3 h4=>by
     have:j=k∨j=k+1:=by omega
     rcases this with rfl|rfl
     ·exact hk0
     ·exact hk1)
    refine⟨e',?_,c1,c2,fun c hc=>c4 c (Vj (by rw[v2]) (adE (SV.den_refs s _ hc)))⟩
    rw[adD,Vi _ _ _ _ (by rw[v2]),c3]
  ·cases h
open Go.RowKit
structure wu (C:sP) (E:sV):Prop where
 se:Mj C.P C.SE E
 eq:Br C.P E
 mix:C.P.follows .mixedOrders=true
 nm:∀ (g:FuncId) (fn:Func),C.P.funcs[g]? = some fn→fn.body.isSome=true→(fn.name == "runtime.NumGoroutine")=false
 ct:∀ (g:FuncId) (ct:Ct),C.ct g=some ct→∀ l:List Int,l.length=(q9 ct.a).length→(C.Φ g l).length=(q9 ct.r).length→PC C.P C.G g (rT ct.a l) (sS (rT ct.r (C.Φ g l)))
 nt:∀ (g:FuncId) (ct:Ct),C.nt g=some ct→yQ (q9 ct.r)≤2∧∀ l:List Int,l.length=(q9 ct.a).length→(C.Φ g l).length=(q9 ct.r).length→MB C.P C.G g ct l (C.Φ g l)
 sl:∀ (g:FuncId) (c:vJ),c∈C.sl g→∀ l:List Int,l.length=(q9 c.a++c.ks).length→(C.Φ c.id l).length=(q9 c.r).length→MC C.P C.G g c l (C.Φ c.id l)
structure Ae (C:sP) (E:sV) (s:ry) (c:Code) (st:St) (ex:Exit) (st':St):Prop where
 aw:∀ w0 B0,AW ⟨C.P,C.G,E,w0,B0,st.T.length⟩ c (wP s ex st') st.N (rO.den s st.T) (SH.den s st.H)
 len:st'.T.length=st.T.length
 dt:∀ j,tK j st'.dt=false→tK j st.dt=false∧hget st'.H j=hget st.H j
 fc:sQ s st'.fc
abbrev Kb (C:sP) (E:sV) (s:ry) (exf:Code→St→qZ (Exit×St)):Prop:=∀ c st ex st',(exf c st).path C.Φ s=some (ex,st')→sQ s st.fc→Ae C E s c st ex st'
section
variable {C:sP} {E:sV} {s:ry}
theorem Kc {α:Type} {x:Exit} {A B:qZ α} {w:String} {r:α} (h:(match x with | .normal=>A | .ret=>B|_=>.stuck w:qZ α).path C.Φ s=some r):(x = .normal∧A.path C.Φ s=some r)∨(x = .ret∧B.path C.Φ s=some r):=by
 cases x<;>first|exact .inl ⟨rfl,h⟩|exact .inr ⟨rfl,h⟩|cases h
theorem adH:(fun n:Nat=>n)=uE []:=by funext n;rfl
mutual
theorem SV.ren_nil:∀ x:SV,x.ren (uE [])=x
 | .v _=>rfl
 | .int _ _=>rfl
 | .bool _=>rfl
 | .loc _ _=>rfl
 | .hd _=>rfl
 | .ha _ _=>rfl
 | .sl _ _ _ _=>rfl
 | .fn g a c=>by simp only[SV.ren,SV.rens_nil a,SV.rens_nil c]
 | .tup l=>by simp only[SV.ren,SV.rens_nil l]
 | .agg l=>by simp only[SV.ren,SV.rens_nil l]
theorem SV.rens_nil:∀ l:List SV,SV.rens (uE []) l=l
 | []=>rfl
 | x::l=>by simp only[SV.rens,SV.ren_nil x,SV.rens_nil l]
end
theorem Qs (hC:wu C E) {exf:Code→St→qZ (Exit×St)} (hex:Kb C E s exf) {g:FuncId} {args:List SV} {H:SH} {k nv:Nat} {fc:Facts} {r:CR} (h:(JV C.P exf g args H k nv fc).path C.Φ s=some r) (hfc:sQ s fc):yR C s g args H k r:=by
 unfold JV at h
 split at h
 ·cases h
 ·rename_i fn hf
  split at h
  ·cases h
  ·rename_i cd hb
   split at h
   ·cases h
   ·rename_i objs hro
    split at h
    ·rename_i hl hk hw0
     obtain⟨r0,h0,e1,e2,e3,e4⟩:=adq hfc h
     obtain⟨⟨ex,st⟩,h1,h2⟩:=qZ.path_bind_some h0
     have sp:=hex _ _ _ _ h1 hfc
     have hlen:(uS args fn.ntmps).length=fn.ntmps:=Ep _ _ (Nat.le_of_ble_eq_true hl)
     have hA:∀ w0 B0,AW ⟨C.P,C.G,E,w0,B0,fn.ntmps⟩ cd (wP s ex st) k (rO.den s (uS args fn.ntmps)) (SH.den s objs):=fun w0 B0=>by
      have:=sp.aw w0 B0;simp only[hlen] at this;exact this
     have hD:U3 objs st.dt st.H:=fun j hj=>(sp.dt j hj).2
     have hn:=hC.nm g fn hf (by rw[hb];rfl)
     have key:ex = .normal∨ex = .ret→(Ms C.P fn objs k st).path C.Φ s=some r0→yR C s g args H k r0:=by
      intro hx h3
      unfold Ms at h3
      split at h3
      ·cases h3
      ·rename_i rs hrs
       split at h3
       ·cases h3
       ·rename_i R2 hR2
        split at h3
        ·cases h3
        ·cases h3
        ·rename_i nw hnw hw2
         split at h3
         ·cases h3
          have:=U4 hf hb hn hro hl hk hA hx hD sp.fc hrs hR2 hw0 hw2 hnw (m:=[]) rfl st.nv
          rw[SV.ren_nil] at this
          simpa [Ad,adH] using this
         ·split at h3
          ·cases h3
          ·rename_i m hm
           cases h3
           exact U4 hf hb hn hro hl hk hA hx hD sp.fc hrs hR2 hw0 hw2 hnw hm st.nv
     have main:yR C s g args H k r0:=by
      rcases Kc h2 with⟨hx,h3⟩|⟨hx,h3⟩
      ·exact key (.inl hx) h3
      ·exact key (.inr hx) h3
     refine⟨by rw[← e2];exact main.tc,by rw[← e2,← e3];exact main.ef,e4 main.fc,?_⟩
     rw[← e1,← e2,← e3];exact main.ok
    ·cases h
theorem Qt (hC:wu C E) {exf:Code→St→qZ (Exit×St)} (hex:Kb C E s exf) {g:FuncId} {args:List SV} {H:SH} {k nv:Nat} {fc:Facts} {r:CR} (h:(JZ C exf g args H k nv fc).path C.Φ s=some r) (hfc:sQ s fc):yR C s g args H k r:=by
 unfold JZ at h
 split at h
 ·rename_i ct hnt
  exact adG (hC.nt g ct hnt).1 (hC.nt g ct hnt).2 h hfc
 split at h
 ·split at h
  ·exact Qs hC hex h hfc
  ·exact adF (fun c hc=>hC.sl g c hc) h hfc (fun h=>Qs hC hex h hfc)
 ·rename_i ct hct
  split at h
  ·exact Qs hC hex h hfc
  ·rename_i xs hxs
   obtain⟨hv,hl⟩:=Db s hxs
   have hcc:=hC.ct g ct hct (xs.map (X.den s)) (by simpa using hl)
   have fin:(C.Φ g (xs.map (X.den s))).length=(q9 ct.r).length→∀ l:List SV,SV.dens s l=(rT ct.r (C.Φ g (xs.map (X.den s)))).map .v→yR C s g args H k ⟨tJ l,[],[],r.nv,fc⟩:=fun hln l hd=>by
    refine⟨fun b hb=>by simp at hb,fun x hx=>by simp[sD] at hx,hfc,fun w0 B0=>?_⟩
    simp only[Qf hd]
    exact(hcc hln).call w0 B0 (by rw[hv];exact CW _) _ _
   split at h
   ·rename_i ns hns
    split at h
    ·rename_i hq
     have hq:=sN.1 hq
     rw[Qb] at h
     cases h
     have e:=Qe s hns
     refine fin (by rw[e];exact hq) _ ?_
     rw[e]
     exact BO (Qc s _ _) (Qd _ _ hq)
    ·cases h
   ·simp only[qZ.path] at h
    split at h
    ·rename_i hce
     rw[tZ] at h
     cases h
     unfold Ec at hce
     refine fin (by rw[← hce];exact BG _ _ _) _ ?_
     obtain⟨h1,h2⟩:=AX s (q9 ct.r) nv
     rw[hce] at h1
     exact BO h1 h2
    ·cases h
theorem adI {β:Type} {ops:Array Oper} {T:rO} {o:Oper} {fc:Facts} {K:Bool→Facts→qZ β} {r:β} (hf:sQ s fc) (h:(PV ops T o fc K).path C.Φ s=some r) :
  ∃ q fc',sQ s fc'∧AA ops (rO.den s T) o=some q∧(K q fc').path C.Φ s=some r:=by
 unfold PV at h
 unfold AA
 split at h
 ·rename_i hg
  exact⟨true,fc,hf,by rw[hg],h⟩
 ·rename_i j want hg
  rw[hg]
  simp only
  split at h
  ·rename_i hd
   exact⟨false,fc,hf,by rw[hd],h⟩
  ·rename_i d hd
   rw[hd]
   simp only
   split at h
   ·rename_i x hx
    have hT:rO.den s T d=some (.v (.bool (x.den s != 0))):=by simp[rO.den,hx,SV.den]
    obtain⟨fc',hf',h'⟩:=BH hf h
    refine⟨_,fc',hf',?_,h'⟩
    rw[hT]
    simp only[yN]
    cases (x.den s != 0)<;>cases want<;>rfl
   ·rename_i vs hx
    have hT:rO.den s T d=some (.v (.tuple vs)):=by simp[rO.den,hx,SV.den]
    exact⟨false,fc,hf,by rw[hT],h⟩
   ·cases h
theorem adJ {fv:SV} {g:FuncId} {a c:List SV} (h:PW fv=some (g,a,c)):FO (fv.den s)=some (g,SV.dens s a,SV.dens s c):=by
 have hC':∀ l:List Value,SV.dens s (l.map BI)=l.map .v:=fun l=>by
  rw[SV.dens_map,List.map_map];exact List.map_congr_left fun x _=>Ma s x
 unfold PW at h
 split at h
 ·cases h
  simp only[SV.den,FO,hC']
 ·cases h
  simp only[SV.den]
  unfold xh
  have hm:∀ {l:List AV} {vs:List Value},tO l=some vs→l=vs.map .v:=fun {l} {vs} hv=>by
   have h4:=JI l
   unfold vY at h4;rw[hv] at h4
   simpa [tu,Value.cells] using h4.symm
  cases ha:tO (SV.dens s a) with
  | none=>rfl
  | some x=>cases hc:tO (SV.dens s c) with
   | none=>rfl
   | some y=>simp only[FO,hm ha,hm hc]
 ·cases h
theorem adK {op:Op} {ρ:Operand→Option SV} {ρ':Operand→Option AV} (hρ:RD s ρ ρ') {g:FuncId} {args:List SV} (h:PX op ρ=some (some (g,args))) {P:Program} {G:rJ} {H:rf} {k:Nat} :
  FQ op ρ'=some (g,SV.dens s args)∧zW op ρ'=none∧rR P G E op ρ' H k=none:=by
 unfold PX at h
 split at h
 ·rename_i f xs ts
  split at h
  ·rename_i fv hfv
   split at h
   ·rename_i g' a c bs hcl hl
    simp only[Option.some.injEq,Prod.mk.injEq] at h
    obtain⟨rfl,rfl⟩:=h
    refine⟨?_,rfl,rfl⟩
    simp only[FQ,hρ _ _ hfv,adJ hcl,Mi hρ hl,CZ]
   ·cases h
  ·cases h
 ·cases h
theorem adL {op:Op} {ρ:Operand→Option SV} {ρ':Operand→Option AV} (hρ:RD s ρ ρ') {q:X} {x y:Option SV} (h:PY op ρ=some (q,x,y)):∃ x' y',zW op ρ'=some (q.den s != 0,x',y')∧(∀ a,x=some a→x'=some (a.den s))∧(∀ a,y=some a→y'=some (a.den s)):=by
 unfold PY at h
 split at h
 ·rename_i c a b
  split at h
  ·rename_i q' hq
   cases h
   refine⟨ρ' a,ρ' b,?_,fun z hz=>hρ _ _ hz,fun z hz=>hρ _ _ hz⟩
   simp only[zW,hρ _ _ hq,SV.den]
  ·cases h
 ·cases h
theorem adM {P:Program} {G:rJ} {op:Op} {ρ:Operand→Option AV} {c:Bool} {x y:Option AV} {H:rf} {k:Nat} {r:AV} {tc:List Nat} {ef:List (Nat×AO)} (h:zW op ρ=some (c,x,y)) (hn:rR P G E op ρ H k=some (r,tc,ef)) :
  tc = []∧ef = []∧(c=true→x=some r)∧(c=false→y=some r):=by
 unfold zW at h
 split at h
 ·rename_i q a b
  split at h
  ·rename_i q' hq
   cases h
   simp only[rR,hq] at hn
   cases c with
   | true =>
    simp only[if_true] at hn
    obtain⟨h1,rfl,rfl⟩:=xQ hn
    exact⟨rfl,rfl,fun _=>h1,fun h=>by cases h⟩
   | false =>
    simp only[Bool.false_eq_true,if_false] at hn
    obtain⟨h1,rfl,rfl⟩:=xQ hn
    exact⟨rfl,rfl,(fun h=>by cases h),fun _=>h1⟩
  ·cases h
 ·cases h
def BS (tr:Tr):Tr:=tr.filter fun x => !x.2.1.isEmpty
theorem Vm (tc:List Nat):∀ ef:List (Nat×SO),Mq tc ef=yu tc (sD s ef)
 | []=>rfl
 | x::ef=>by
  have hc:tK x.1 tc=tc.contains x.1:=by rw[Bool.eq_iff_iff,J8,List.contains_iff_mem]
  simp only[Mq,yu,sD,List.map_cons,List.any_cons,hc]
  cases tc.contains x.1 with
  | true=>rfl
  | false=>simp only[Bool.false_or];exact Vm tc ef
theorem adN {i:Nat} {tc:List Nat} {ef:List (Nat×SO)} {tr:Tr} : BS ((i,tc,yu tc (sD s ef))::tr)=BN i tc ef (BS tr):=by
 unfold BN BS
 cases tc with
 | nil=>rfl
 | cons b tc=>rw[List.filter_cons_of_pos (by rfl),← Vm (s:=s)]
theorem Ke {M:List Nat} {Nb:Nat} : ∀ {tr:Tr},CO M Nb (BS tr)=true→CO M Nb tr=true
 | [],_=>rfl
 | x::l,h=>by
  unfold BS at h
  have empty:∀ y z:Nat×List Nat×Bool,z.2.1 = []∨y.2.1 = []→CL M y z=true:=fun y z hz=>by
   unfold CL
   rcases hz with hz|hz<;>simp[hz]
  cases hx:x.2.1 with
  | nil =>
   rw[List.filter_cons_of_neg (by simp[hx])] at h
   simp only[CO,Bool.and_eq_true]
   refine⟨⟨by rw[hx];rfl,?_⟩,Ke h⟩
   rw[List.all_eq_true];intro y _;exact empty x y (.inr hx)
  | cons b tc =>
   rw[List.filter_cons_of_pos (by simp[hx])] at h
   simp only[CO,Bool.and_eq_true] at h ⊢
   refine⟨⟨h.1.1,?_⟩,Ke h.2⟩
   rw[List.all_eq_true];intro y hy
   cases hy2:y.2.1 with
   | nil=>exact empty x y (.inl hy2)
   | cons b' tc'=>exact List.all_eq_true.1 h.1.2 y (List.mem_filter.2 ⟨hy,by simp[hy2]⟩)
theorem Vn {β:Type} {T:rO} {d:Option Tmp} {x:SV} {K:rO→qZ β} {r:β} (hd:∀ t,d=some t→t<T.length) (h:(BM T d x K).path C.Φ s=some r) :
  ∃ T',T'.length=T.length∧rO.den s T'=(rO.den s T).put d (x.den s)∧(K T').path C.Φ s=some r:=by
 unfold BM at h
 cases d with
 | none=>exact⟨T,rfl,rfl,h⟩
 | some d =>
  simp only at h
  rw[UA] at h
  exact⟨_,UC T d x,rO.den_set s T d x (hd d rfl),h⟩
theorem Vo {j:Nat} : ∀ {ef:List (Nat×SO)} {dt:List Nat},tK j (AR ef dt)=false→tK j dt=false∧∀ x∈ef,x.1≠j
 | [],dt,h=>⟨h,fun x hx=>by simp at hx⟩
 | x::ef,dt,h=>by
  rw[AR] at h
  obtain⟨h1,h2⟩:=Vo h
  unfold addN at h1
  split at h1
  ·rename_i hm
   refine⟨h1,fun y hy=>?_⟩
   rcases List.mem_cons.1 hy with rfl|hy
   ·rintro rfl;rw[hm] at h1;cases h1
   ·exact h2 y hy
  ·simp only[tK] at h1
   split at h1
   ·cases h1
   ·rename_i hb
    refine⟨h1,fun y hy=>?_⟩
    rcases List.mem_cons.1 hy with rfl|hy
    ·rintro rfl;simp at hb
    ·exact h2 y hy
theorem Vp {j:Nat} : ∀ {ef:List (Nat×SO)} {H:SH},(∀ x∈ef,x.1≠j)→hget (Ed H ef) j=hget H j
 | [],H,_=>rfl
 | x::ef,H,h=>by
  rw[Ed,Vp (fun y hy=>h y (List.mem_cons_of_mem _ hy)),Pp,if_neg (fun e=>h x List.mem_cons_self e.symm)]
theorem Vq (q:Bool) (v:Value) (b:Bool):(JQ q v b).den s = .v (zU q v b):=by
 cases q with
 | true =>
  have:SV.dens s [BI v,.bool (.lit (rX b))] = [v,Value.bool b].map .v:=by
   simp only[SV.dens,Ma,SV.den,X.den,ut,List.map_cons,List.map_nil]
  simp only[JQ,SV.den,this,L9,zU,if_true]
 | false=>simp only[JQ,Ma,zU,Bool.false_eq_true,if_false]
theorem Vr {β:Type} {kd:IntKind} {n:X} {q:Bool} {z:Value} {K:SV→Facts→qZ β} {r:β} : ∀ {es:List (Value×Value)} {fc:Facts},JP kd es=true→sQ s fc→(Mk kd n q z K es fc).path C.Φ s=some r →
  ∃ a fc',sQ s fc'∧(K a fc').path C.Φ s=some r∧((∃ v,Bw kd (n.den s) es=some (some v)∧a.den s = .v (zU q v true))∨(Bw kd (n.den s) es=some none∧a.den s = .v (zU q z false)))
 | [],fc,hk,hf,h=>⟨_,fc,hf,h,.inr ⟨rfl,Vq q z false⟩⟩
 | x::l,fc,hk,hf,h=>by
  simp only[JP] at hk
  simp only[Mk] at h
  cases hx:x.1 with
  | int k' m =>
   rw[hx] at hk h
   simp only at hk h
   cases hkk:vG kd k' with
   | false=>rw[hkk] at hk;cases hk
   | true =>
    rw[hkk] at hk
    simp only at hk
    have hke:=xk hkk
    obtain⟨fc',hf',h⟩:=BH hf h
    rw[CS] at h
    simp only[rM,ut,X.den] at h
    unfold Bw
    rw[hx]
    simp only[hke,if_true]
    cases hb:(n.den s==m) with
    | true =>
     rw[hb] at h
     have:n.den s=m:=by simpa using hb
     simp only[this,if_true]
     exact⟨_,fc',hf',h,.inl ⟨x.2,rfl,Vq q x.2 true⟩⟩
    | false =>
     rw[hb] at h
     have:¬ n.den s=m:=by simpa using hb
     simp only[this,if_false]
     rw[← hke]
     exact Vr hk hf' h
  | _=>rw[hx] at hk;cases hk
theorem adO {op:Op} {ρ:Operand→Option SV} {ρ':Operand→Option AV} (hρ:RD s ρ ρ') {H:SH} {L:UL} (h:PZ C.P op ρ H=some L) {G:rJ} {k:Nat} :
  JP L.kd L.es=true∧zW op ρ'=none∧FQ op ρ'=none∧(∀ v,Bw L.kd (L.n.den s) L.es=some (some v)→rR C.P G E op ρ' (SH.den s H) k=some (.v (zU L.q v true),[L.k],[])) ∧
   (Bw L.kd (L.n.den s) L.es=some none→rR C.P G E op ρ' (SH.den s H) k=some (.v (zU L.q L.z false),[L.k],[])):=by
 unfold PZ at h
 split at h
 ·rename_i t x i q
  split at h
  ·rename_i j kd n hx hi
   split at h
   ·rename_i o ho
    split at h
    ·rename_i es ht hm
     split at h
     ·rename_i kt et hu
      split at h
      ·rename_i kd' z hkt hz
       split at h
       ·rename_i hk1 hk2
        cases h
        have e1:=xk hk1
        have a1:=hρ _ _ hx
        have a2:=hρ _ _ hi
        simp only[SV.den] at a1 a2
        have a3:=SH.den_map (s:=s) ho ht hm
        refine⟨hk2,rfl,rfl,fun v hv=>?_,fun hv=>?_⟩
        ·simp only at hv
         simp only[rR,a1,a2,Az,a3,hu,hkt,e1,if_true,hv];rfl
        ·simp only at hv
         simp only[rR,a1,a2,Az,a3,hu,hkt,e1,if_true,hv,hz];rfl
       ·cases h
      ·cases h
     ·cases h
    ·cases h
   ·cases h
  ·cases h
 ·cases h
theorem Vs (k:VK) (x:X):JR k x=Ac k x:=by cases k<;>rfl
theorem Vt:∀ (ks:List VK) (xs:List X),Mm ks xs=zM ks xs
 | [],_=>rfl
 | _::_,[]=>rfl
 | k::ks,x::xs=>by rw[Mm,zM,Vs,Vt ks xs]
theorem Vu:∀ (ks:List VK) (b:Nat),Mo b ks=rG b ks
 | [],_=>rfl
 | k::ks,b=>by rw[Mo,rG,Vu ks]
theorem Qu:∀ (ks:List VK) (ns:List Int),ns.length=ks.length→(sK ks ns).length=ks.length
 | [],_,_=>by simp[sK]
 | k::ks,[],h=>by simp at h
 | k::ks,n::ns,h=>by rw[sK,List.length_cons,List.length_cons,Qu ks ns (by simpa using h)]
theorem Qv (b:Nat) (ks:List VK):∀ n,(xn s b ks n).length=n*ks.length
 | 0=>by simp[xn]
 | n+1=>by rw[xn,List.length_append,Qv b ks n,Qu _ _ (BG _ _ _),Nat.add_mul,Nat.one_mul]
theorem Qw (b:Nat) (ks:List VK):∀ {n j:Nat},j<n→((xn s b ks n).drop (j*ks.length)).take ks.length=sK ks (vH s (b+j*ks.length) ks.length)
 | n+1,j,h=>by
  rw[xn]
  have hl:=Qv (s:=s) b ks n
  by_cases hj:j=n
  ·subst hj
   rw[List.drop_append_of_le_length (by rw[hl];exact Nat.le_refl _),List.drop_of_length_le (by rw[hl];exact Nat.le_refl _),List.nil_append,List.take_of_length_le (by rw[Qu _ _ (BG _ _ _)];exact Nat.le_refl _)]
  ·have hjn:j<n:=by omega
   have hm:(j+1)*ks.length≤n*ks.length:=Nat.mul_le_mul_right _ hjn
   rw[Nat.add_mul,Nat.one_mul] at hm
   rw[List.drop_append_of_le_length (by rw[hl];omega),List.take_append_of_le_length (by rw[List.length_drop,hl];omega)]
   exact Qw b ks hjn
theorem Qx {H:SH} {k:Nat} {r:JH} (h:Ml H k=some r):SH.den s H k=some (.rd (r.n.den s).toNat (xn s r.b r.ks (r.n.den s).toNat)):=by
 unfold Ml at h
 split at h
 ·rename_i o ho
  split at h
  ·rename_i r' h1 h2 h3
   cases h
   exact SH.den_ora ho h1 h2 h3
  ·cases h
 ·cases h
theorem Qy {j:Nat} {n:X} (h:((uo .lss .i64 (.lit (.ofNat j)) n).den s != 0)=true):j<(n.den s).toNat:=by
 rw[CS] at h
 simp only[rM,ut,X.den] at h
 have:=of_decide_eq_true h
 have h2:(j:Int)<n.den s:=this
 omega
theorem adP {op:Op} {ρ:Operand→Option SV} {ρ':Operand→Option AV} (hρ:RD s ρ ρ') {H:SH} {L:UM} (h:P5 C.P op ρ H=some L) {G:rJ} {k:Nat} (hc:(L.c.den s != 0)=true) :
  zW op ρ'=none∧rR C.P G E op ρ' (SH.den s H) k=some (L.r.den s,[L.k],[]):=by
 unfold P5 at h
 split at h
 ·rename_i t x i
  split at h
  ·rename_i j kk kd m hx hi
   split at h
   ·rename_i r el hr hel
    split at h
    ·rename_i sz hsz
     split at h
     ·rename_i hb
      rw[tZ] at h
      cases h
      have a1:=hρ _ _ hx
      have a2:=hρ _ _ hi
      have hlt:=Qy hc
      refine⟨rfl,?_⟩
      simp only[SV.den,X.den] at a1 a2
      simp only[rR,a1,a2,zg,Qx hr,hel,hsz]
      rw[if_pos ⟨by exact Int.natCast_nonneg _,by show(m:Int)<_;omega⟩]
      rfl
     ·cases h
    ·cases h
   ·cases h
  ·cases h
 ·rename_i t x
  split at h
  ·rename_i kk off hx
   split at h
   ·rename_i r hr
    rw[tZ] at h
    have a1:=hρ _ _ hx
    simp only[SV.den] at a1
    split at h
    ·rename_i hb ha
     have hb:=sN.1 hb
     split at h
     ·rename_i sz hsz
      split at h
      ·rename_i hz h1
       have hz:=sN.1 hz
       have h1:=Nat.le_of_ble_eq_true h1
       rw[tZ] at h
       cases h
       have hlt:=Qy hc
       refine⟨rfl,?_⟩
       have hg:=Qw (s:=s) r.b r.ks hlt
       have hl:=Qv (s:=s) r.b r.ks (r.n.den s).toNat
       have hm:(off/r.ks.length+1)*r.ks.length≤(r.n.den s).toNat*r.ks.length:=Nat.mul_le_mul_right _ hlt
       rw[Nat.add_mul,Nat.one_mul,hb] at hm
       rw[hb] at hg
       simp only[rR,a1,xx,Qx hr,vv,ha,hsz]
       rw[if_pos ⟨by rw[List.length_map,hl,hz];exact hm,by omega⟩]
       simp only[SV.den,Vt,Vu]
       obtain⟨v1,v2⟩:=AX s r.ks (r.b+off)
       rw[Mx v1 v2,← List.map_drop,← List.map_take,hz,hg]
      ·cases h
     ·cases h
    ·rename_i hb ha
     have hb:=sN.1 hb
     split at h
     ·rename_i vk hks
      rw[tZ] at h
      cases h
      have hlt:=Qy hc
      refine⟨rfl,?_⟩
      have hg:=Qw (s:=s) r.b r.ks hlt
      rw[hb,hks] at hg
      simp only[rR,a1,xx,Qx hr,vv,ha]
      have hx1:(xn s r.b r.ks (r.n.den s).toNat)[off]? = some (tH vk (s (r.b+off))):=by
       have e1:((xn s r.b [vk] (r.n.den s).toNat).drop off).take 1 = [tH vk (s (r.b+off))]:=hg
       rw[hks]
       have e2:(((xn s r.b [vk] (r.n.den s).toNat).drop off).take 1)[0]? = some (tH vk (s (r.b+off))):=by rw[e1];rfl
       rwa [List.getElem?_take_of_lt (by decide),List.getElem?_drop] at e2
      rw[List.getElem?_map,hx1,Vs]
      rw[Mw (s:=s) (k:=vk) (x:=.var vk (r.b+off)) (n:=s (r.b+off)) rfl]
      rfl
     ·cases h
    ·cases h
   ·cases h
  ·cases h
 ·cases h
theorem Kg (hC:wu C E) {cf:CF} {nt:Nat} (hcf:∀ g args H k nv fc r,(cf g args H k nv fc).path C.Φ s=some r→sQ s fc→yR C s g args H k r) {ops:Array Oper} {Nb:Nat} :
  ∀ (os:List Oper) (i:Nat) (T:rO) (H:SH) (tr:JO) (nv:Nat) (dt:List Nat) (fc:Facts) (out:OR),(zm C cf ops Nb i os T H tr nv dt fc).path C.Φ s=some out→sQ s fc→T.length=nt→(∀ o∈os,∀ t,o.dst=some t→t<nt) →
   (∀ w0 B0 (trf:Tr) (K:rP→rf→Tr→Prop),BS trf=tr→(∀ trf',BS trf'=out.tr→K (rO.den s out.T) (SH.den s out.H) trf')→uG C.P C.G E w0 B0 ops Nb i os (rO.den s T) (SH.den s H) trf K) ∧
   out.T.length=nt∧sQ s out.fc∧∀ j,tK j out.dt=false→tK j dt=false∧hget out.H j=hget H j
 | [],i,T,H,tr,nv,dt,fc,out,h,hfc,hT,hd=>by
  simp only[zm] at h
  cases h
  exact⟨fun w0 B0 trf K ht hK=>by rw[uG];exact hK trf ht,hT,hfc,fun j hj=>⟨hj,rfl⟩⟩
 | o::os,i,T,H,tr,nv,dt,fc,out,h,hfc,hT,hd=>by
  simp only[zm] at h
  obtain⟨q,fc1,hf1,hw,h⟩:=adI hfc h
  have hdo:∀ t,o.dst=some t→t<T.length:=by rw[hT];exact hd o List.mem_cons_self
  have hds:∀ o'∈os,∀ t,o'.dst=some t→t<nt:=fun o' ho'=>hd o' (List.mem_cons_of_mem _ ho')
  cases q with
  | false =>
   simp only at h
   obtain⟨T',hl,hden,h⟩:=Vn hdo h
   obtain⟨h1,h2,h3,h4⟩:=Kg hC hcf os (i+1) T' H tr nv dt fc1 out h hf1 (hl.trans hT) hds
   refine⟨fun w0 B0 trf K ht hK=>?_,h2,h3,h4⟩
   have:=h1 w0 B0 trf K ht hK
   rw[hden] at this
   simp only[uG,hw,DT];exact this
  | true =>
   simp only at h
   have step:∀ (r:SV) (tc:List Nat) (ef:List (Nat×SO)) (nv':Nat) (fc':Facts),sQ s fc'→(BM T o.dst r fun T=>AQ H ef fun H=>zm C cf ops Nb (Nat.succ i) os T H (BN i tc ef tr) nv' (AR ef dt) fc').path C.Φ s=some out →
     (∀ w0 B0 (trf:Tr) (K:rP→rf→Tr→Prop),BS trf=tr→(∀ trf',BS trf'=out.tr→K (rO.den s out.T) (SH.den s out.H) trf')→uG C.P C.G E w0 B0 ops Nb (i+1) os ((rO.den s T).put o.dst (r.den s)) ((SH.den s H).puts (sD s ef)) ((i,tc,yu tc (sD s ef))::trf) K) ∧
     out.T.length=nt∧sQ s out.fc∧∀ j,tK j out.dt=false→tK j dt=false∧hget out.H j=hget H j:=by
    intro r tc ef nv' fc' hf' h
    obtain⟨T',hl,hden,h⟩:=Vn hdo h
    rw[UE] at h
    obtain⟨h1,h2,h3,h4⟩:=Kg hC hcf os (i+1) T' _ _ nv' _ fc' out h hf' (hl.trans hT) hds
    refine⟨fun w0 B0 trf K ht hK=>?_,h2,h3,fun j hj=>?_⟩
    ·have:=h1 w0 B0 ((i,tc,yu tc (sD s ef))::trf) K (by rw[adN,ht]) hK
     rw[hden,UF] at this
     exact this
    ·obtain⟨h5,h6⟩:=h4 j hj
     obtain⟨h7,h8⟩:=Vo h5
     exact⟨h7,by rw[h6,Vp h8]⟩
   split at h
   ·cases h
   ·rename_i g args hcs
    rw[tZ] at h
    obtain⟨r,hr,h⟩:=qZ.path_bind_some h
    have sp:=hcf _ _ _ _ _ _ _ hr hf1
    obtain⟨h1,h2⟩:=step r.r r.tc r.ef r.nv r.fc sp.fc h
    refine⟨fun w0 B0 trf K ht hK=>?_,h2⟩
    obtain⟨e1,e2,e3⟩:=adK (E:=E) (CY s T) hcs (P:=C.P) (G:=C.G) (H:=SH.den s H) (k:=Nb+2*i)
    simp only[uG,hw,zV,e2,e3,e1]
    exact⟨_,_,_,sp.ok w0 B0,sp.tc,sp.ef,h1 w0 B0 trf K ht hK⟩
   ·split at h
    ·rename_i q x y hp
     obtain⟨fc2,hf2,h⟩:=BH hf1 h
     obtain⟨x',y',e1,e2,e3⟩:=adL (s:=s) (CY s T) hp
     cases hq:(q.den s != 0) with
     | true =>
      rw[hq] at h e1
      simp only at h
      cases x with
      | none=>cases h
      | some r =>
       obtain⟨h1,h2⟩:=step r [] [] nv fc2 hf2 (by simpa [AQ,BN,AR] using h)
       refine⟨fun w0 B0 trf K ht hK=>?_,h2⟩
       simp only[uG,hw,zV,e1,e2 r rfl]
       exact h1 w0 B0 trf K ht hK
     | false =>
      rw[hq] at h e1
      simp only at h
      cases y with
      | none=>cases h
      | some r =>
       obtain⟨h1,h2⟩:=step r [] [] nv fc2 hf2 (by simpa [AQ,BN,AR] using h)
       refine⟨fun w0 B0 trf K ht hK=>?_,h2⟩
       simp only[uG,hw,zV,DT,e1,e3 r rfl]
       exact h1 w0 B0 trf K ht hK
    ·split at h
     ·rename_i L hL
      obtain⟨k1,k2,k3,k4,k5⟩:=adO (E:=E) (s:=s) (CY s T) hL (G:=C.G) (k:=Nb+2*i)
      obtain⟨a,fc2,hf2,h,hv⟩:=Vr k1 hf1 h
      obtain⟨h1,h2⟩:=step a [L.k] [] nv fc2 hf2 (by simpa [AQ,AR] using h)
      refine⟨fun w0 B0 trf K ht hK=>?_,h2⟩
      have h3:=h1 w0 B0 trf K ht hK
      have hn:rR C.P C.G E o.op (uO (rO.den s T)) (SH.den s H) (Nb+2*i)=some (a.den s,[L.k],[]):=by
       rcases hv with⟨v,v1,v2⟩|⟨v1,v2⟩
       ·rw[v2];exact k4 v v1
       ·rw[v2];exact k5 v1
      simp only[uG,hw,zV,k2,hn]
      exact h3
     split at h
     ·rename_i L hL
      obtain⟨fc2,hf2,h⟩:=BH hf1 h
      cases hq:(L.c.den s != 0) with
      | false=>rw[hq] at h;cases h
      | true =>
       rw[hq] at h
       simp only at h
       obtain⟨k2,hn⟩:=adP (E:=E) (s:=s) (CY s T) hL (G:=C.G) (k:=Nb+2*i) hq
       obtain⟨h1,h2⟩:=step L.r [L.k] [] nv fc2 hf2 (by simpa [AQ,AR] using h)
       refine⟨fun w0 B0 trf K ht hK=>?_,h2⟩
       have h3:=h1 w0 B0 trf K ht hK
       simp only[uG,hw,zV,k2,hn]
       exact h3
     ·rw[tZ] at h
      obtain⟨r,hr,h⟩:=qZ.path_bind_some h
      have hn:=adl hC.se hf1 (CY s T) hr
      obtain⟨h1,h2⟩:=step r.1 r.2.1 r.2.2 nv fc1 hf1 h
      refine⟨fun w0 B0 trf K ht hK=>?_,h2⟩
      have h3:=h1 w0 B0 trf K ht hK
      simp only[uG,hw,zV]
      cases hp:zW o.op (uO (rO.den s T)) with
      | none=>simp only[hn];exact h3
      | some z =>
       obtain⟨c,x,y⟩:=z
       obtain⟨e1,e2,e3,e4⟩:=adM hp hn
       rw[e1,e2] at h3
       cases c with
       | true=>simp only[zV,e3 rfl];exact h3
       | false=>simp only[DT,e4 rfl];exact h3
theorem zn {r:Exit×St} {t:qZ (Exit×St)} {f:Exit×St→qZ (Exit×St)} (h:(t.bind f).path C.Φ s=some r):∃ ex st,t.path C.Φ s=some (ex,st)∧(f (ex,st)).path C.Φ s=some r:=by
 obtain⟨⟨ex,st⟩,h1,h2⟩:=qZ.path_bind_some h;exact⟨ex,st,h1,h2⟩
theorem Et {x:Exit} {r y:Exit×St} {A:qZ (Exit×St)} (h:(match x with | .normal=>A|_=>.leaf y:qZ (Exit×St)).path C.Φ s=some r):(x = .normal∧A.path C.Φ s=some r)∨(x ≠ .normal∧r=y):=by
 cases x<;>first|exact .inl ⟨rfl,h⟩|(cases h;exact .inr ⟨fun e=>(by cases e),rfl⟩)
theorem Eu {K:Nat→rP→rf→Prop} {Q:yw} {x:Exit} {N:Nat} {T:rP} {H:rf} (hx:x ≠ .normal) (h:Q x N T H):FW K Q x N T H:=by
 cases x<;>first|exact absurd rfl hx|exact h
theorem Ae.trans {c c' c2:Code} {st st1 st2:St} {tF ex2:Exit} (h1:Ae C E s c st tF st1) (h2:Ae C E s c' st1 ex2 st2) (aw:∀ w0 B0,AW ⟨C.P,C.G,E,w0,B0,st.T.length⟩ c2 (wP s ex2 st2) st.N (rO.den s st.T) (SH.den s st.H)):Ae C E s c2 st ex2 st2 :=
 ⟨aw,h2.len.trans h1.len,fun j hj=>by obtain⟨a,b⟩:=h2.dt j hj;obtain⟨a',b'⟩:=h1.dt j a;exact⟨a',b.trans b'⟩,h2.fc⟩
def BU (id:Nat):Exit→Exit
 | .exit id'=>if id'=id then .normal else .exit id'
 | x=>x
theorem Gy (hC:wu C E):∀ n:Nat,Kb C E s (exec C n) ∧
  ∀ c st ex st',(exec C n (.loop c) st).path C.Φ s=some (ex,st')→sQ s st.fc→∀ w0 B0,xA ⟨C.P,C.G,E,w0,B0,st.T.length⟩ c (wP s ex st') n st.N (rO.den s st.T) (SH.den s st.H)
 | 0=>⟨fun c st ex st' h=>(by cases h),fun c st ex st' h=>(by cases h)⟩
 | n+1=>by
  obtain⟨ih,ihl⟩:=Gy hC n
  have loop:∀ c st ex st',(exec C (n+1) (.loop c) st).path C.Φ s=some (ex,st')→sQ s st.fc→Ae C E s (.loop c) st ex st'∧∀ w0 B0,xA ⟨C.P,C.G,E,w0,B0,st.T.length⟩ c (wP s ex st') (n+1) st.N (rO.den s st.T) (SH.den s st.H):=by
   intro c st ex st' h hf
   simp only[exec] at h
   obtain⟨tF,st1,h1,h2⟩:=zn h
   have s1:=ih _ _ _ _ h1 hf
   rcases Et h2 with⟨rfl,h3⟩|⟨hx,h3⟩
   ·have s2:=ih _ _ _ _ h3 s1.fc
    have hr:∀ w0 B0,xA ⟨C.P,C.G,E,w0,B0,st.T.length⟩ c (wP s ex st') (n+1) st.N (rO.den s st.T) (SH.den s st.H):=fun w0 B0=>by
     rw[FZ]
     refine(s1.aw w0 B0).mono ?_
     rintro x N T H ⟨rfl,rfl,rfl,rfl⟩
     have:=ihl _ _ _ _ h3 s1.fc w0 B0
     rw[s1.len] at this
     exact this
    exact⟨s1.trans s2 fun w0 B0=>FY _ (hr w0 B0),hr⟩
   ·obtain⟨rfl,rfl⟩:tF=ex∧st1=st':=by cases h3;exact⟨rfl,rfl⟩
    have hr:∀ w0 B0,xA ⟨C.P,C.G,E,w0,B0,st.T.length⟩ c (wP s tF st1) (n+1) st.N (rO.den s st.T) (SH.den s st.H):=fun w0 B0=>by
     rw[FZ]
     refine(s1.aw w0 B0).mono ?_
     rintro x N T H ⟨rfl,rfl,rfl,rfl⟩
     exact Eu hx ⟨rfl,rfl,rfl,rfl⟩
    exact⟨⟨fun w0 B0=>FY _ (hr w0 B0),s1.len,s1.dt,s1.fc⟩,hr⟩
  refine⟨?_,fun c st ex st' h hf=>(loop c st ex st' h hf).2⟩
  intro c st ex st' h hf
  cases c with
  | skip=>simp only[exec] at h;cases h;exact⟨fun w0 B0=>OD ⟨rfl,rfl,rfl,rfl⟩,rfl,fun j hj=>⟨hj,rfl⟩,hf⟩
  | label l=>simp only[exec] at h;cases h;exact⟨fun w0 B0=>OE ⟨rfl,rfl,rfl,rfl⟩,rfl,fun j hj=>⟨hj,rfl⟩,hf⟩
  | exit id=>simp only[exec] at h;cases h;exact⟨fun w0 B0=>OG ⟨rfl,rfl,rfl,rfl⟩,rfl,fun j hj=>⟨hj,rfl⟩,hf⟩
  | ret=>simp only[exec] at h;cases h;exact⟨fun w0 B0=>OH ⟨rfl,rfl,rfl,rfl⟩,rfl,fun j hj=>⟨hj,rfl⟩,hf⟩
  | seq a b =>
   simp only[exec] at h
   obtain⟨tF,st1,h1,h2⟩:=zn h
   have s1:=ih _ _ _ _ h1 hf
   rcases Et h2 with⟨rfl,h3⟩|⟨hx,h3⟩
   ·have s2:=ih _ _ _ _ h3 s1.fc
    refine s1.trans s2 fun w0 B0=>FX ((s1.aw w0 B0).mono ?_)
    rintro x N T H ⟨rfl,rfl,rfl,rfl⟩
    have:=s2.aw w0 B0
    rw[s1.len] at this
    exact this
   ·cases h3
    refine⟨fun w0 B0=>FX ((s1.aw w0 B0).mono ?_),s1.len,s1.dt,s1.fc⟩
    rintro x N T H ⟨rfl,rfl,rfl,rfl⟩
    exact Eu hx ⟨rfl,rfl,rfl,rfl⟩
  | cond c a b =>
   simp only[exec] at h
   split at h
   ·rename_i q hq
    have hd:=CY s st.T _ _ hq
    obtain⟨fc',hf',h⟩:=BH hf h
    simp only[SV.den] at hd
    cases hb:(q.den s != 0) with
    | true =>
     rw[hb] at h hd
     have s1:=ih _ _ _ _ h hf'
     exact⟨fun w0 B0=>OI hd (s1.aw w0 B0),s1.len,s1.dt,s1.fc⟩
    | false =>
     rw[hb] at h hd
     have s1:=ih _ _ _ _ h hf'
     exact⟨fun w0 B0=>OJ hd (s1.aw w0 B0),s1.len,s1.dt,s1.fc⟩
   ·cases h
  | block id c =>
   simp only[exec] at h
   obtain⟨tF,st1,h1,h2⟩:=zn h
   have s1:=ih _ _ _ _ h1 hf
   have key:ex=BU id tF∧st'=st1:=by
    cases tF with
    | exit id' =>
     simp only at h2
     simp only[BU]
     split at h2
     ·rename_i hb;cases h2;rw[if_pos (sN.1 hb)];exact⟨rfl,rfl⟩
     ·rename_i hb;cases h2
      rw[if_neg (fun e=>by rw[e] at hb;simp at hb)];exact⟨rfl,rfl⟩
    | _=>cases h2;exact⟨rfl,rfl⟩
   obtain⟨rfl,rfl⟩:=key
   refine⟨fun w0 B0=>OL ((s1.aw w0 B0).mono ?_),s1.len,s1.dt,s1.fc⟩
   rintro x N T H ⟨rfl,rfl,rfl,rfl⟩
   cases x with
   | exit id' =>
    simp only[Jr,BU]
    split
    ·exact⟨rfl,rfl,rfl,rfl⟩
    ·exact⟨rfl,rfl,rfl,rfl⟩
   | _=>exact⟨rfl,rfl,rfl,rfl⟩
  | loop c=>exact(loop c st ex st' h hf).1
  | scope c =>
   simp only[exec] at h
   obtain⟨tF,st1,h1,h2⟩:=zn h
   have s1:=ih _ _ _ _ h1 hf
   have key:(∀ l,tF ≠ .goto l)∧ex=tF∧st'=st1:=by
    cases tF<;>first|(cases h2;exact⟨fun l e=>(by cases e),rfl,rfl⟩)|cases h2
   obtain⟨hg,rfl,rfl⟩:=key
   exact⟨fun w0 B0=>OO (s1.aw w0 B0) (fun l N T H e=>hg l e.1.symm),s1.len,s1.dt,s1.fc⟩
  | region id ops draw =>
   simp only[exec] at h
   obtain⟨out,h1,h2⟩:=qZ.path_bind_some h
   have dst:∀ o∈ops.toList,∀ t,o.dst=some t→t<st.T.length:=by
    unfold regionEnd at h2
    split at h2
    ·split at h2
     ·rename_i hdr _
      simp only[drawOK,Bool.and_eq_true] at hdr
      exact BA hdr.1.2
     ·cases h2
     ·cases h2
    ·split at h2
     ·rename_i hdr;exact BA hdr
     ·cases h2
   obtain⟨e1,e2,e3,e4⟩:=Kg hC (nt:=st.T.length) (fun g args H k nv fc r hr hf=>Qt hC ih hr hf) ops.toList 0 st.T st.H [] st.nv st.dt st.fc out h1 hf rfl dst
   unfold regionEnd at h2
   cases draw with
   | true =>
    simp only at h2
    split at h2
    ·rename_i hdr htr
     rw[tZ] at h2
     cases h2
     refine⟨fun w0 B0=>OQ hC.eq hC.mix hdr (e1 w0 B0 [] _ rfl ?_),e2,e4,e3⟩
     intro trf htf
     refine⟨?_,rfl,rfl,rfl,rfl⟩
     rw[← htf] at htr
     exact Ke htr
    ·cases h2
    ·cases h2
   | false =>
    simp only at h2
    split at h2
    ·rename_i hdr
     rw[tZ] at h2
     cases h2
     exact⟨fun w0 B0=>OP hC.eq hdr (e1 w0 B0 [] _ rfl fun trf htf=>⟨rfl,rfl,rfl,rfl⟩),e2,e4,e3⟩
    ·cases h2
  | rangeFunc f ps a b=>simp only[exec] at h;cases h
  | goto l=>simp only[exec] at h;cases h
  | refuse w=>simp only[exec] at h;cases h
end
open Go.RowKit
def rC:List Int→Nat→Int
 | [],_=>0
 | x::_,0=>x
 | _::l,n+1=>rC l n
theorem Vv:∀ (l m:List Int) (i:Nat),i<l.length→rC (l++m) i=rC l i
 | x::l,m,0,_=>rfl
 | x::l,m,i+1,h=>Vv l m i (by simpa using h)
 | [],m,i,h=>by simp at h
theorem Qz:∀ (l m q:List Int),vH (rC (l++m++q)) l.length m.length=m
 | l,[],q=>rfl
 | l,x::m,q=>by
  rw[List.length_cons,vH]
  have h1:rC (l++x::m++q) l.length=x:=by
   induction l with
   | nil=>rfl
   | cons y l ih=>exact ih
  have h2:=Qz (l ++ [x]) m q
  rw[h1]
  simp only[List.append_assoc,List.singleton_append,List.length_append,List.length_cons,List.length_nil,List.cons_append,List.nil_append,Nat.zero_add] at h2 ⊢
  rw[h2]
def X.ev (l:List Int):X→Int
 | .lit n=>n
 | .var k i=>Gp k (rC l i)
 | .bin op k a b=>fold op k (a.ev l) (b.ev l)
 | .conv k a=>uH k (a.ev l)
 | .com k a=>fold .xor k (match k.signed with|true => -1|false=>.ofNat (xB k-1)) (a.ev l)
 | .not a=>rX (zC (sJ (a.ev l)))
 | .and a b=>match sJ (a.ev l) with|true=>rX (sJ (b.ev l))|false=>0
 | .beq a b=>rX (match sJ (a.ev l) with|true=>sJ (b.ev l)|false=>zC (sJ (b.ev l)))
 | .min a b=>match wh (b.ev l) (a.ev l) with|true=>b.ev l|false=>a.ev l
 | .max a b=>match wh (a.ev l) (b.ev l) with|true=>b.ev l|false=>a.ev l
 | .ite c a b=>match sJ (c.ev l) with|true=>a.ev l|false=>b.ev l
 | .dlen a=>Int.ofNat (zY (a.ev l).toNat)
theorem adQ (k:IntKind) (n:Int):fold .xor k (match k.signed with|true => -1|false=>.ofNat (xB k-1)) n=JD k n:=by
 have:=Ut (fun _=>0) k (.lit n)
 unfold LX at this
 simp only[DX,X.den] at this
 exact this
theorem X.ev_den (l:List Int):∀ x:X,x.ev l=x.den (rC l)
 | .lit n=>rfl
 | .var k i=>UU k _
 | .bin op k a b=>by simp only[X.ev,X.den,Ea,X.ev_den l a,X.ev_den l b]
 | .conv k a=>by simp only[X.ev,X.den,uh,X.ev_den l a]
 | .com k a=>by simp only[X.ev,X.den,adQ,X.ev_den l a]
 | .not a=>by simp only[X.ev,X.den,yN,uI,X.ev_den l a]
 | .and a b=>by
  simp only[X.ev,X.den,uI,X.ev_den l a,X.ev_den l b]
  cases (a.den (rC l) != 0)<;>rfl
 | .beq a b=>by
  simp only[X.ev,X.den,uI,yN,X.ev_den l a,X.ev_den l b]
  cases (a.den (rC l) != 0)<;>cases (b.den (rC l) != 0)<;>rfl
 | .min a b=>by
  simp only[X.ev,X.den,yM,X.ev_den l a,X.ev_den l b]
  by_cases h:b.den (rC l)<a.den (rC l)
  ·rw[decide_eq_true h,if_pos h]
  ·rw[decide_eq_false h,if_neg h]
 | .max a b=>by
  simp only[X.ev,X.den,yM,X.ev_den l a,X.ev_den l b]
  by_cases h:a.den (rC l)<b.den (rC l)
  ·rw[decide_eq_true h,if_pos h]
  ·rw[decide_eq_false h,if_neg h]
 | .ite c a b=>by
  simp only[X.ev,X.den,uI,X.ev_den l a,X.ev_den l b,X.ev_den l c]
  by_cases h:c.den (rC l)=0
  ·rw[if_pos h,h];rfl
  ·rw[if_neg h,show(c.den (rC l) != 0)=true by simpa using h]
 | .dlen a=>by simp only[X.ev,X.den,X.ev_den l a]
def evs {β:Sort _} (l:List Int):List X→(List Int→β)→β
 | [],K=>K []
 | x::xs,K=>DW (x.ev l) fun n=>evs l xs fun r=>K (n::r)
theorem zo {β:Sort _} (l:List Int):∀ (xs:List X) (K:List Int→β),evs l xs K=K (xs.map (X.den (rC l)))
 | [],K=>rfl
 | x::xs,K=>by rw[evs,DX,zo l xs,X.ev_den];rfl
def uX (Φ:uD):qZ SV→List Int→Option (SV×List Int)
 | .leaf a,l=>some (a,l)
 | .ite c a b,l=>match sJ (c.ev l) with|true=>uX Φ a l|false=>uX Φ b l
 | .call f args _ n t,l=>evs l args fun xs=>match Nat.beq (Φ f xs).length n with|true=>uX Φ t (l++Φ f xs)|false=>none
 | .stuck _,_=>none
def vL (n:Nat):X→Bool
 | .lit _=>true
 | .var _ i=>Nat.blt i n
 | .bin _ _ a b=>sO (vL n a) (vL n b)
 | .conv _ a=>vL n a
 | .com _ a=>vL n a
 | .not a=>vL n a
 | .and a b=>sO (vL n a) (vL n b)
 | .beq a b=>sO (vL n a) (vL n b)
 | .min a b=>sO (vL n a) (vL n b)
 | .max a b=>sO (vL n a) (vL n b)
 | .ite c a b=>sO (vL n c) (sO (vL n a) (vL n b))
 | .dlen a=>vL n a
def ME (n:Nat):List X→Bool
 | []=>true
 | x::l=>sO (vL n x) (ME n l)
def AY (n:Nat):qZ SV→Bool
 | .leaf _=>true
 | .ite c a b=>sO (vL n c) (sO (AY n a) (AY n b))
 | .call _ args base m t=>sO (Nat.beq base n) (sO (ME n args) (AY (n+m) t))
 | .stuck _=>true
theorem wQ {l m:List Int} : ∀ {x:X},vL l.length x=true→x.den (rC (l++m))=x.den (rC l)
 | .lit n,_=>rfl
 | .var k i,h=>by simp only[X.den];rw[Vv _ _ _ (by simpa [vL,Nat.blt_eq] using h)]
 | .bin _ _ a b,h=>by have h:=su h;simp only[X.den,wQ h.1,wQ h.2]
 | .conv _ a,h=>by simp only[X.den,wQ (x:=a) h]
 | .com _ a,h=>by simp only[X.den,wQ (x:=a) h]
 | .not a,h=>by simp only[X.den,wQ (x:=a) h]
 | .and a b,h=>by have h:=su h;simp only[X.den,wQ h.1,wQ h.2]
 | .beq a b,h=>by have h:=su h;simp only[X.den,wQ h.1,wQ h.2]
 | .min a b,h=>by have h:=su h;simp only[X.den,wQ h.1,wQ h.2]
 | .max a b,h=>by have h:=su h;simp only[X.den,wQ h.1,wQ h.2]
 | .ite c a b,h=>by have h:=su h;have h2:=su h.2;simp only[X.den,wQ h.1,wQ h2.1,wQ h2.2]
 | .dlen a,h=>by simp only[X.den,wQ (x:=a) h]
theorem Vw {l m:List Int} : ∀ {xs:List X},ME l.length xs=true→xs.map (X.den (rC (l++m)))=xs.map (X.den (rC l))
 | [],_=>rfl
 | x::xs,h=>by have h:=su h;rw[List.map_cons,List.map_cons,wQ h.1,Vw h.2]
theorem Ev {Φ:uD} : ∀ {t:qZ SV} {l:List Int} {a:SV} {l':List Int},uX Φ t l=some (a,l')→AY l.length t=true→t.path Φ (rC l')=some a∧∃ m,l'=l++m
 | .leaf a,l,b,l',h,_=>by simp only[uX,Option.some.injEq,Prod.mk.injEq] at h;obtain⟨rfl,rfl⟩:=h;exact⟨rfl,[],by simp⟩
 | .ite c a b,l,v,l',h,hs=>by
  have hs:=su hs;have hs2:=su hs.2
  simp only[uX,uI,X.ev_den] at h
  split at h
  ·rename_i hc
   obtain⟨h1,m,rfl⟩:=Ev h hs2.1
   refine⟨?_,m,rfl⟩
   rw[qZ.path,wQ hs.1,if_neg (by simpa using hc)];exact h1
  ·rename_i hc
   obtain⟨h1,m,rfl⟩:=Ev h hs2.2
   refine⟨?_,m,rfl⟩
   rw[qZ.path,wQ hs.1,if_pos (by simpa using hc)];exact h1
 | .call f args base n t,l,v,l',h,hs=>by
  have hs:=su hs;have hs2:=su hs.2
  have hb:=sN.1 hs.1;subst hb
  simp only[uX,zo] at h
  split at h
  ·rename_i hn
   have hn:=sN.1 hn;subst hn
   obtain⟨h1,m,rfl⟩:=Ev h (by rw[List.length_append];exact hs2.2)
   refine⟨?_,_,List.append_assoc _ _ _⟩
   rw[qZ.path,if_pos]
   ·exact h1
   ·unfold Ec
    have e:=Vw (m:=Φ f (args.map (X.den (rC l)))++m) hs2.1
    rw[List.append_assoc,e,← List.append_assoc]
    exact Qz l _ m
  ·cases h
 | .stuck w,l,v,l',h,_=>by cases h
def xI (r:List Sh) (a:SV):List SV:=match r with
 | [_]=>[a]
 | _=>match a with | .tup m=>m|a=>[a]
def rE (Φ:uD) (ct:Ct) (t:qZ SV) (l:List Int):List Int:=match uX Φ t l with
 | some (a,l')=>match wO ct.r (xI ct.r a) with
  | some xs=>evs l' xs id
  | none=>[]
 | none=>[]
def okF (Φ:uD) (ct:Ct) (t:qZ SV) (l:List Int):Prop:=∃ a l' xs,uX Φ t l=some (a,l')∧wO ct.r (xI ct.r a)=some xs
theorem MF {Φ:uD} {ct:Ct} {t:qZ SV} {l:List Int} (h:okF Φ ct t l):(rE Φ ct t l).length=(q9 ct.r).length:=by
 obtain⟨a,l',xs,h1,h2⟩:=h
 unfold rE
 simp only[h1,h2,zo,id,List.length_map,(Db (fun _=>0) h2).2]
theorem MG (l m:List Int):vH (rC (l++m)) 0 l.length=l:=by
 have:=Qz [] l m;simpa using this
theorem adR {C:sP} {E:sV} {s:ry} (hC:wu C E) {n:Nat} {g:FuncId} {args:List SV} {nv:Nat} {a:SV} {vs:List Value} {v:Value} (h:(rU C n g args nv).path C.Φ s=some a) (ha:SV.dens s args=vs.map .v) (hv:a.den s = .v v) :
  PC C.P C.G g vs v:=by
 unfold rU at h
 split at h
 ·cases h
 ·rename_i fn hf
  split at h
  ·cases h
  ·rename_i cd hb
   split at h
   ·rename_i hl
    obtain⟨⟨ex,st⟩,h1,h2⟩:=qZ.path_bind_some h
    have sp:=(Gy (E:=E) (s:=s) hC n).1 _ _ _ _ h1 (fun x hx=>by cases hx)
    have hlen:(uS args fn.ntmps).length=fn.ntmps:=Ep _ _ (Nat.le_of_ble_eq_true hl)
    have hvl:vs.length=args.length:=by have:=congrArg List.length ha;rw[zi,List.length_map] at this;exact this.symm
    refine OW E hf hb (hC.nm g fn hf (by rw[hb];rfl)) (by rw[hvl];exact hl) fun w=>?_
    have hA:=sp.aw w sw.nil
    simp only[hlen,J9,ha] at hA
    have key:∀ rs,vK C.P st.T st.H fn.results.toList=some rs→tJ rs=a→∃ rs',yx C.P C.G (rO.den s st.T) (SH.den s st.H) fn.results.toList=some rs'∧zX rs' = .v v:=fun rs hrs e =>
     ⟨_,Er s hrs,by rw[Gv,e,hv]⟩
    have hx:(ex = .normal∨ex = .ret)∧∃ rs,vK C.P st.T st.H fn.results.toList=some rs∧tJ rs=a:=by
     rcases Kc h2 with⟨rfl,h3⟩|⟨rfl,h3⟩
     ·split at h3
      ·rename_i rs hrs;cases h3;exact⟨.inl rfl,rs,hrs,rfl⟩
      ·cases h3
     ·split at h3
      ·rename_i rs hrs;cases h3;exact⟨.inr rfl,rs,hrs,rfl⟩
      ·cases h3
    obtain⟨hx,rs,hrs,e⟩:=hx
    refine AW.mono (show AW _ cd (wP s ex st) 0 _ _ from hA) ?_
    rintro x N T H ⟨rfl,rfl,rfl,rfl⟩
    rcases hx with rfl|rfl
    ·exact key rs hrs e
    ·exact key rs hrs e
   ·cases h
theorem MH {s:ry} {r:List Sh} {a:SV} {vs:List Value} (h:SV.dens s (xI r a)=vs.map .v) (hl:vs.length=r.length):a.den s = .v (sS vs):=by
 unfold xI at h
 split at h
 ·match vs,hl with
  | [v],_=>simpa [SV.dens,sS] using h
 ·rename_i hr
  have tup:∀ m,SV.dens s m=vs.map .v→(SV.tup m).den s = .v (sS vs):=fun m hm=>by
   simp only[SV.den,hm,L9]
   match vs,hl with
   | [],_=>rfl
   | [v],hl=>exfalso;match r,hl with | [x],_=>exact hr x rfl
   | _::_::_,_=>rfl
  split at h
  ·exact tup _ h
  ·rename_i hnt
   exfalso
   have h1:=congrArg List.length h
   rw[zi,List.length_map,hl] at h1
   match r,h1 with
   | [x],_=>exact hr x rfl
theorem Gz:∀ (hs:List Sh) (ns:List Int),(rT hs ns).length=hs.length
 | [],_=>rfl
 | h::hs,ns=>by rw[rT,List.length_cons,Gz hs,List.length_cons]
theorem Vx {C:sP} {E:sV} (hC:wu C E) {n:Nat} {g:FuncId} {ct:Ct} {t:qZ SV} (h:rU C n g (rH ct.a (rG 0 (q9 ct.a))) (q9 ct.a).length=t) (hs:AY (q9 ct.a).length t=true)
  (l:List Int) (hl:l.length=(q9 ct.a).length) (ho:okF C.Φ ct t l) :
  (rE C.Φ ct t l).length=(q9 ct.r).length∧PC C.P C.G g (rT ct.a l) (sS (rT ct.r (rE C.Φ ct t l))):=by
 refine⟨MF ho,?_⟩
 obtain⟨a,l',xs,h1,h2⟩:=ho
 obtain⟨h3,m,rfl⟩:=Ev h1 (by rw[hl];exact hs)
 rw[← h] at h3
 obtain⟨h4,h5⟩:=AX (rC (l++m)) (q9 ct.a) 0
 rw[← hl,MG] at h4
 have hf:=Db (rC (l++m)) h2
 refine adR hC h3 (BO h4 h5) ?_
 have:rE C.Φ ct t l=xs.map (X.den (rC (l++m))):=by unfold rE;simp only[h1,h2,zo,id]
 rw[this]
 exact MH hf.1 (Gz _ _)
def yS (cf:FuncId→Option Ct) (ct:Ct) (n:Nat):qZ SV→Bool
 | .leaf a=>(wO ct.r (xI ct.r a)).isSome
 | .ite c a b=>sO (vL n c) (sO (yS cf ct n a) (yS cf ct n b))
 | .call f args base m t=>match cf f with
  | some c=>sO (Nat.beq base n) (sO (ME n args) (sO (Nat.beq args.length (q9 c.a).length) (sO (Nat.beq m (q9 c.r).length) (yS cf ct (n+m) t))))
  | none=>false
 | .stuck _=>false
theorem Ew {cf:FuncId→Option Ct} {ct:Ct} : ∀ {t:qZ SV} {n:Nat},yS cf ct n t=true→AY n t=true
 | .leaf a,n,_=>rfl
 | .ite c a b,n,h=>by
  have h:=su h;have h2:=su h.2
  simp only[AY,h.1,Ew h2.1,Ew h2.2];rfl
 | .call f args base m t,n,h=>by
  simp only[yS] at h
  split at h
  ·have h:=su h;have h2:=su h.2;have h3:=su h2.2;have h4:=su h3.2
   simp only[AY,h.1,h2.1,Ew h4.2];rfl
  ·cases h
 | .stuck _,n,h=>by cases h
structure uY (C:sP) (E:sV):Prop where
 ok:wu C E
 ct:∀ (g:FuncId) (ct:Ct),C.ct g=some ct→∀ l:List Int,l.length=(q9 ct.a).length→(C.Φ g l).length=(q9 ct.r).length
 nt:∀ (g:FuncId) (ct:Ct),C.nt g=some ct→∀ l:List Int,l.length=(q9 ct.a).length→(C.Φ g l).length=(q9 ct.r).length
 sl:∀ (g:FuncId) (c:vJ),c∈C.sl g→∀ l:List Int,l.length=(q9 c.a++c.ks).length→(C.Φ c.id l).length=(q9 c.r).length
theorem MI {C:sP} {E:sV} (hC:uY C E) {ct:Ct} : ∀ {t:qZ SV} {l:List Int},yS C.ct ct l.length t=true→okF C.Φ ct t l
 | .leaf a,l,h=>by
  obtain⟨xs,hx⟩:=Option.isSome_iff_exists.1 (show(wO ct.r (xI ct.r a)).isSome=true from h)
  exact⟨a,l,xs,rfl,hx⟩
 | .ite c a b,l,h=>by
  have h:=su h;have h2:=su h.2
  unfold okF
  simp only[uX]
  cases sJ (c.ev l) with
  | true=>exact MI hC h2.1
  | false=>exact MI hC h2.2
 | .call f args base m t,l,h=>by
  simp only[yS] at h
  split at h
  ·rename_i c hc
   have h:=su h;have h2:=su h.2;have h3:=su h2.2;have h4:=su h3.2
   have e1:=sN.1 h3.1;have e2:=sN.1 h4.1
   unfold okF
   simp only[uX,zo]
   have hl:=(hC.ct f c hc (args.map (X.den (rC l))) (by rw[List.length_map];exact e1))
   rw[hl,e2]
   simp only[Nat.beq_refl]
   refine MI hC ?_
   rw[List.length_append,hl,← e2];exact h4.2
  ·cases h
 | .stuck _,l,h=>by cases h
structure rZ where
 g:FuncId
 ct:Ct
 F:List Int→List Int
def vM:List rZ→FuncId→Option rZ
 | [],_=>none
 | x::l,g=>match Nat.beq x.g g with|true=>some x|false=>vM l g
def GA (C : sP) (L : List rZ) : sP :=
  { C with ct := fun g => match vM L g with | some e => some e.ct | none => C.ct g
           Φ := fun g l => match vM L g with | some e => e.F l | none => C.Φ g l
           nt := fun _ => none
           sl := fun _ => [] }
def rD (P:Program) (G:rJ) (e:rZ):Prop:=∀ l:List Int,l.length=(q9 e.ct.a).length→(e.F l).length=(q9 e.ct.r).length∧PC P G e.g (rT e.ct.a l) (sS (rT e.ct.r (e.F l)))
theorem GD {L:List rZ} {g:FuncId} {e:rZ} (h:vM L g=some e):e∈L∧e.g=g:=by
 induction L with
 | nil=>cases h
 | cons x l ih =>
  simp only[vM] at h
  split at h
  ·rename_i hb;cases h;exact⟨List.mem_cons_self,sN.1 hb⟩
  ·obtain⟨h1,h2⟩:=ih h;exact⟨List.mem_cons_of_mem _ h1,h2⟩
theorem uY.add {C:sP} {E:sV} (hC:uY C E) {L:List rZ} (h:∀ e∈L,rD C.P C.G e):uY (GA C L) E:=by
 have key:∀ (g:FuncId) (ct:Ct),(GA C L).ct g=some ct→∀ l:List Int,l.length=(q9 ct.a).length→((GA C L).Φ g l).length=(q9 ct.r).length∧(((GA C L).Φ g l).length=(q9 ct.r).length→PC C.P C.G g (rT ct.a l) (sS (rT ct.r ((GA C L).Φ g l)))):=by
  intro g ct hct l hl
  simp only[GA] at hct ⊢
  cases hf:vM L g with
  | some e =>
   rw[hf] at hct
   simp only[Option.some.injEq] at hct;subst hct
   obtain⟨h1,h2⟩:=GD hf
   subst h2
   exact⟨(h e h1 l hl).1,fun _=>(h e h1 l hl).2⟩
  | none =>
   rw[hf] at hct
   exact⟨hC.ct g ct hct l hl,hC.ok.ct g ct hct l hl⟩
 exact⟨⟨hC.ok.se,hC.ok.eq,hC.ok.mix,hC.ok.nm,fun g ct hct l hl=>(key g ct hct l hl).2,fun g ct hn=>(by cases hn),fun g c hc=>(by cases hc)⟩,fun g ct hct l hl=>(key g ct hct l hl).1,fun g ct hn=>(by cases hn),fun g c hc=>(by cases hc)⟩
theorem sG {C:sP} {E:sV} (hC:uY C E) (n:Nat) {g:FuncId} {ct:Ct} {t:qZ SV} (h:rU C n g (rH ct.a (rG 0 (q9 ct.a))) (q9 ct.a).length=t) (hs:yS C.ct ct (q9 ct.a).length t=true) :
  rD C.P C.G ⟨g,ct,rE C.Φ ct t⟩:=fun l hl=>Vx hC.ok h (Ew hs) l hl (MI hC (by rw[hl];exact hs))
structure xX (P:Program) (G:rJ) (e:rZ):Prop where
 ok:∀ l:List Int,l.length=(q9 e.ct.a).length→(e.F l).length=(q9 e.ct.r).length→PC P G e.g (rT e.ct.a l) (sS (rT e.ct.r (e.F l)))
theorem rD.c {P:Program} {G:rJ} {e:rZ} (h:rD P G e):xX P G e:=⟨fun l hl _=>(h l hl).2⟩
theorem xX.tot {P:Program} {G:rJ} {e:rZ} (h:xX P G e) (ht:∀ l:List Int,l.length=(q9 e.ct.a).length→(e.F l).length=(q9 e.ct.r).length):rD P G e:=fun l hl=>⟨ht l hl,h.ok l hl (ht l hl)⟩
theorem adS {Φ:uD} {ct:Ct} {t:qZ SV} {l:List Int} (hp:Nat.blt 0 (q9 ct.r).length=true) (h:(rE Φ ct t l).length=(q9 ct.r).length):okF Φ ct t l:=by
 have hp:0<(q9 ct.r).length:=by simpa [Nat.blt_eq] using hp
 unfold rE at h
 cases he:uX Φ t l with
 | none=>rw[he] at h;simp only[List.length_nil] at h;omega
 | some q =>
  obtain⟨a,l'⟩:=q
  rw[he] at h
  simp only at h
  cases hf:wO ct.r (xI ct.r a) with
  | none=>rw[hf] at h;simp only[List.length_nil] at h;omega
  | some xs=>exact⟨a,l',xs,he,hf⟩
end Go.Proofs.YtbembkamcdlhbaaGreatDoor
