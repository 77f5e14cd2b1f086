import Derived.Lib.Split
import Derived.Lib.FieldsP
import Derived.Lib.ItoaNum
import Derived.Lib.DecodeN
set_option linter.unusedSimpArgs false
set_option linter.unusedVariables false
namespace Go.Proofs.YtippohicjhilnaaGreatDoor.Sc
open Go
abbrev By:=List UInt8
def lines:By->List By
 | []=>[[]]
 | c::t=>if c=10 then []::lines t else match lines t with
  | []=>[[c]]
  | l::ls=>(c::l)::ls
theorem ayC:∀ s,lines s ≠ []
 | []=>by simp[lines]
 | c::t=>by
  unfold lines;split
  ·simp
  ·split<;>simp
theorem aDd (c:UInt8) (t:By) (h:c≠10):∃ l ls,lines t=l::ls/\lines (c::t)=(c::l)::ls:=by
 cases hl:lines t with
 | nil=>exact absurd hl (ayC t)
 | cons l ls=>exact⟨l,ls,rfl,by rw[lines,if_neg h,hl]⟩
theorem alg (b:By):∀ a:By,lines (a++10::b)=lines a++lines b
 | []=>by simp[lines]
 | c::t=>by
  have ih:=alg b t;rw[List.cons_append];by_cases h:c=10
  ·subst h;simp only[lines,if_pos,ih,List.cons_append]
  ·obtain⟨l,ls,h1,h2⟩:=aDd c t h;rw[h2,lines,if_neg h,ih,h1];rfl
theorem aeg:∀ s:By,(10:UInt8)∉s->lines s = [s]
 | [],_=>rfl
 | c::t,h=>by
  have hc:c≠10:=λe=>h (by rw[e];simp)
  rw[lines,if_neg hc,aeg t (λe=>h (List.mem_cons_of_mem _ e))]
theorem alh:∀ s:By,(10:UInt8)∈s->∃ a b,s=a++10::b/\(10:UInt8)∉a
 | c::t,h=>by
  by_cases hc:c=10
  ·exact⟨[],t,by rw[hc];rfl,by simp⟩
  ·obtain⟨a,b,h1,h2⟩:=alh t (by rcases List.mem_cons.1 h with e|e;exact absurd e.symm hc;exact e);exact⟨c::a,b,by rw[h1];rfl,λe=>by rcases List.mem_cons.1 e with e|e;exact hc e.symm;exact h2 e⟩
theorem ali:∀ s:By,(10:UInt8)∉s->Lib.index s [10] = -1
 | [],_=>rfl
 | c::t,h=>by
  have hc:¬ c=10:=λe=>h (by rw[e];simp)
  have ih:=ali t (λe=>h (List.mem_cons_of_mem _ e));have hc2:((10:UInt8)==c)=false:=by rw[beq_eq_false_iff_ne];exact λe=>hc e.symm
  unfold Lib.index;simp[List.isPrefixOf,hc2,ih]
theorem alj (b:By):∀ a:By,(10:UInt8)∉a->Lib.index (a++10::b) [10]=(a.length:Int)
 | [],_=>by simp[Lib.index,List.isPrefixOf]
 | c::t,h=>by
  have hc:¬ c=10:=λe=>h (by rw[e];simp)
  have ih:=alj b t (λe=>h (List.mem_cons_of_mem _ e));have hc2:((10:UInt8)==c)=false:=by rw[beq_eq_false_iff_ne];exact λe=>hc e.symm
  have hn:((t.length:Int) == -1)=false:=by rw[beq_eq_false_iff_ne];omega
  rw[List.cons_append];unfold Lib.index;simp[List.isPrefixOf,hc2,ih,hn]
theorem aDu:∀ (n:Nat) (s:By),s.length<=n->Lib.splitK [10] 0 (Lib.count s [10]) s=lines s:=by
 intro n
 induction n with
 | zero =>
  intro s hs;have:s = []:=List.length_eq_zero_iff.1 (by omega);subst this;rfl
 | succ n ih =>
  intro s hs;by_cases h:(10:UInt8)∈s
  ·obtain⟨a,b,rfl,ha⟩:=alh s h;have hi:=alj b a ha;rw[Lib.count_hit (by simp) hi,Nat.add_comm,Lib.splitK,if_neg (by rw[hi];simp),alg,aeg a ha,hi]
   have hd:(a++10::b).drop (a.length+1)=b:=by rw[<- List.drop_drop,List.drop_left];rfl
   have h1 : [(10:UInt8)].length=1:=rfl;simp only[Int.toNat_natCast,Nat.add_zero,List.take_left,List.length_cons,List.length_nil,Nat.zero_add,hd];rw[ih b (by simp at hs;omega)];rfl
  ·rw[Lib.count_miss (ali s h),aeg s h];rfl
section
variable {C:Type} (words:By->List By) (cmd:List By->Option C)
def skip (l:List By):Bool:=match l with | []=>true|w::_=>w.head? == some 35
def parse:Nat->List C->List By->List C×Nat×Nat
 | _,out,[]=>(out,0,0)
 | i,out,s::ls=>if skip (words s)=true then parse (i+1) out ls else if out.length=4096 then([],i+1,2) else match cmd (words s) with
  | none=>([],i+1,3)
  | some c=>parse (i+1) (out ++ [c]) ls
theorem aCS (i:Nat) (out:List C) (s:By) (ls:List By):parse words cmd i out (s::ls)=if skip (words s)=true then parse words cmd (i+1) out ls else if out.length=4096 then([],i+1,2) else match cmd (words s) with
  | none=>([],i+1,3)
  | some c=>parse words cmd (i+1) (out ++ [c]) ls:=by rw[parse]
theorem aCT:∀ (ls:List By) (i:Nat) (out:List C),(parse words cmd i out ls).2.2=0->(parse words cmd i out ls).2.1=0
 | [],_,_,_=>rfl
 | s::ls,i,out,h=>by
  unfold parse at h ⊢;split
  ·rename_i hs;rw[if_pos hs] at h;exact aCT ls _ _ h
  ·rename_i hs;rw[if_neg hs] at h;split
   ·rename_i hl;rw[if_pos hl] at h;cases h
   ·rename_i hl;rw[if_neg hl] at h;split
    ·rename_i hc;rw[hc] at h;cases h
    ·rename_i c hc;rw[hc] at h;exact aCT ls _ _ h
end
section
variable {C T:Type} (act:C->T->(By×Int)×T)
def say (i:Nat) (s:By) (e:Int):By:=Lib.itoa ((i:Int)+1)++32::(Lib.itoa e++10::(if e=0/\s ≠ [] then 32::32::(s ++ [10]) else []))
def aCo:Nat->T->List C->By
 | _,_,[]=>[]
 | i,st,c::cs=>say i (act c st).1.1 (act c st).1.2++aCo (i+1) (act c st).2 cs
def aCL:T->List C->T
 | st,[]=>st
 | st,c::cs=>aCL (act c st).2 cs
theorem aDv:∀ (a:List C) (i:Nat) (st:T) (b:List C),aCo act i st (a++b)=aCo act i st a++aCo act (i+a.length) (aCL act st a) b
 | [],i,st,b=>by simp[aCo,aCL]
 | c::a,i,st,b=>by rw[List.cons_append,aCo,aDv a,aCo,aCL,List.append_assoc,List.length_cons,show i+1+a.length=i+(a.length+1) by omega]
end
theorem aDw (u:Nat):Lib.itoa (u:Int)=Lib.decDigits u:=by unfold Lib.itoa;rw[if_neg (by omega)];simp
section
variable {C T:Type} (act:C->T->(By×Int)×T)
end
section
variable {C T:Type} (words:By->List By) (cmd:List By->Option C) (act:C->T->(By×Int)×T) (st0:T)
def aCU (text:By):List C×Nat×Nat:=if 1048576<text.length then([],0,2) else parse words cmd 0 [] (lines text)
def runT (text:By):By×Nat×Nat:=match aCU words cmd text with
 | (l,_,0)=>(aCo act 0 st0 l,0,0)
 | (_,n,e)=>([],n,e)
theorem aDU (text:By) (h:(aCU words cmd text).2.2=0):runT words cmd act st0 text=(aCo act 0 st0 (aCU words cmd text).1,0,0):=by
 unfold runT;split
 ·rename_i h1;rw[h1]
 ·rename_i n e h1 h2;rw[h2] at h;exact absurd h h1
theorem aDL (text:By) (h:text.length<=1048576):aCU words cmd text=parse words cmd 0 [] (lines text):=by unfold aCU;rw[if_neg (by omega)]
def ins (k:Nat) (more:By):Nat->By->By
 | _,[]=>[]
 | n,c::t=>if c=10 then 10::(if n+1=k then more++10::ins k more (n+1) t else ins k more (n+1) t) else c::ins k more n t
end
def Kb (r:Nat):Bool:=decide (r=32)||(decide (r=9)||decide (r=13))
def wl:By->By->List By
 | cur,[]=>if cur = [] then [] else [cur]
 | cur,c::t=>if Kb c.toNat=true then(if cur = [] then wl [] t else cur::wl [] t) else wl (cur ++ [c]) t
theorem alk (s:ByteArray) (i:Nat):s.data.toList.getD i 0=s.get! i:=by
 cases s with
 | mk d =>
  show d.toList.getD i 0=d[i]!;by_cases h:i<d.size
  ·rw[getElem!_pos d i h];simp[List.getD,h]
  ·rw[getElem!_neg d i h];simp[List.getD,h];rfl
theorem ayD (n b0 b1 b2 b3:Nat) (hn:0<n) (h0:128<=b0) :
  128<=(Lib.decodeN n b0 b1 b2 b3).1/\((Lib.decodeN n b0 b1 b2 b3).2=1\/((Lib.decodeN n b0 b1 b2 b3).2=2/\1<n/\128<=b1)\/((Lib.decodeN n b0 b1 b2 b3).2=3/\2<n/\128<=b1/\128<=b2)\/((Lib.decodeN n b0 b1 b2 b3).2=4/\3<n/\128<=b1/\128<=b2/\128<=b3)):=by
 unfold Lib.decodeN;rw[if_neg (by omega)];split
 ·rename_i h;split
  ·rename_i h2;exact⟨h2,.inr (.inl ⟨rfl,by omega⟩)⟩
  ·exact⟨by decide,.inl rfl⟩
 ·split
  ·rename_i h;split
   ·rename_i h2;exact⟨by have:=h2.1;show 128<=_;omega,.inr (.inr (.inl ⟨rfl,by omega⟩))⟩
   ·exact⟨by decide,.inl rfl⟩
  ·split
   ·rename_i h;split
    ·rename_i h2;exact⟨by have:=h2.1;show 128<=_;omega,.inr (.inr (.inr ⟨rfl,by omega⟩))⟩
    ·exact⟨by decide,.inl rfl⟩
   ·exact⟨by decide,.inl rfl⟩
theorem ayE (s:ByteArray) (pos:Nat) (h:pos<s.size) :
  ((s.get! pos).toNat<128/\Utf8.decode s pos=((s.get! pos).toNat,1)) \/
  (128<=(Utf8.decode s pos).1/\1<=(Utf8.decode s pos).2/\pos+(Utf8.decode s pos).2<=s.size/\∀ k,k<(Utf8.decode s pos).2->128<=(s.get! (pos+k)).toNat):=by
 rw[Lib.decode_at];by_cases h0:(s.get! pos).toNat<128
 ·left;refine⟨h0,?_⟩;unfold Lib.decodeN;rw[if_pos h0]
 ·right;obtain⟨h1,h2⟩:=ayD (s.size-pos) (s.get! pos).toNat (s.get! (pos+1)).toNat (s.get! (pos+2)).toNat (s.get! (pos+3)).toNat (by omega) (by omega);generalize Lib.decodeN (s.size-pos) (s.get! pos).toNat (s.get! (pos+1)).toNat (s.get! (pos+2)).toNat (s.get! (pos+3)).toNat=d at h1 h2;refine⟨h1,by omega,by omega,λk hk=>?_⟩;have hk4:k=0\/k=1\/k=2\/k=3:=by omega
  rcases hk4 with rfl|rfl|rfl|rfl
  ·rw[Nat.add_zero];omega
  ·omega
  ·omega
  ·omega
theorem alm:∀ (m t:By) (cur:By),(∀ c∈m,Kb c.toNat=false)->wl cur (m++t)=wl (cur++m) t
 | [],t,cur,_=>by simp
 | c::m,t,cur,h=>by rw[List.cons_append,wl,if_neg (by simp[h c (by simp)]),alm m t (cur ++ [c]) (λx hx=>h x (List.mem_cons_of_mem _ hx))];simp
theorem ext_eq (s:ByteArray) (a b:Nat):(s.extract a b).data.toList=(s.data.toList.take b).drop a:=by rw[ByteArray.data_extract,Array.toList_extract];simp[List.extract,List.drop_take]
theorem aln {r:Nat} (h:128<=r):Kb r=false:=by unfold Kb;simp only[Bool.or_eq_false_iff,decide_eq_false_iff_not];omega
def cur (s:ByteArray) (pos:Nat):Option Nat->By
 | none=>[]
 | some a=>(s.data.toList.take pos).drop a
theorem Sl (s:ByteArray):∀ (f pos:Nat) (st:Option Nat) (acc:List (Nat×Nat)),s.size<=pos+f->pos<=s.size->(∀ a,st=some a->a<pos) ->
  (Lib.closeSpans s (Lib.spansFromP Kb s f pos st acc)).map (λx=>(s.extract x.1 x.2).data.toList)=acc.map (λx=>(s.extract x.1 x.2).data.toList)++wl (cur s pos st) (s.data.toList.drop pos)
 | 0,pos,st,acc,hf,hp,hst=>by
  have he:s.data.toList.drop pos = []:=List.drop_eq_nil_of_le (by simp;omega);have hps:pos=s.size:=by omega
  rw[he,wl,Lib.spansFromP]
  cases st with
  | none=>simp[Lib.closeSpans,cur]
  | some a =>
   have ha:=hst a rfl
   have hne:(s.data.toList.take pos).drop a ≠ []:=by intro e;have:=congrArg List.length e;simp at this;omega
   rw[show cur s pos (some a)=(s.data.toList.take pos).drop a from rfl,if_neg hne,Lib.closeSpans];simp only[List.map_append,List.map_cons,List.map_nil,ext_eq];rw[hps]
 | f+1,pos,st,acc,hf,hp,hst=>by
  by_cases hlt:pos<s.size
  ·have hw:=ayE s pos hlt
   have hget:s.data.toList.drop pos=s.get! pos::s.data.toList.drop (pos+1):=by
    rw[<- alk];have:pos<s.data.toList.length:=by simpa using hlt
    rw[List.drop_eq_getElem_cons this,List.getD_eq_getElem?_getD,List.getElem?_eq_getElem this];rfl
   unfold Lib.spansFromP;rw[if_pos hlt];by_cases hb:Kb (Utf8.decode s pos).1=true
   ·rw[if_pos hb]
    have hb2:Utf8.decode s pos=((s.get! pos).toNat,1):=by
     rcases hw with h|h
     ·exact h.2
     ·rw[aln h.1] at hb;cases hb
    rw[hb2] at hb ⊢;simp only at hb ⊢;rw[hget,wl,if_pos hb]
    cases st with
    | none =>
     rw[Sl s f (pos+1) none acc (by omega) (by omega) (λa e=>by cases e)];rfl
    | some a =>
     have ha:=hst a rfl
     have hne:(s.data.toList.take pos).drop a ≠ []:=by intro e;have:=congrArg List.length e;simp at this;omega
     simp only;rw[Sl s f (pos+1) none (acc ++ [(a,pos)]) (by omega) (by omega) (λa e=>by cases e),show cur s pos (some a)=(s.data.toList.take pos).drop a from rfl,if_neg hne];simp only[List.map_append,List.map_cons,List.map_nil,ext_eq];simp[cur]
   ·rw[if_neg hb]
    obtain⟨w,hw1,hw2,hw3,hw4⟩:∃ w,(Utf8.decode s pos).2=w/\1<=w/\pos+w<=s.size/\∀ k,k<w->Kb (s.get! (pos+k)).toNat=false:=by
     rcases hw with h|h
     ·refine⟨1,by rw[h.2],Nat.le_refl _,by omega,λk hk=>?_⟩;obtain rfl:k=0:=by omega
      rw[h.2] at hb;simpa using hb
     ·exact⟨_,rfl,h.2.1,h.2.2.1,λk hk=>aln (h.2.2.2 k hk)⟩
    rw[hw1]
    have hdr:s.data.toList.drop pos=((s.data.toList.take (pos+w)).drop pos)++s.data.toList.drop (pos+w):=by have:=List.take_append_drop w (s.data.toList.drop pos);rw[List.drop_drop] at this;rw[<- this,List.drop_take];simp
    have hm:∀ c∈(s.data.toList.take (pos+w)).drop pos,Kb c.toNat=false:=λc hc=>by
     obtain⟨k,hk,rfl⟩:=List.mem_iff_getElem.1 hc;have hk2:k<w:=by simp at hk;omega
     have h5:=hw4 k hk2;rw[<- alk] at h5;have hd:pos+k<s.data.toList.length:=by simp;have:pos+w<=s.data.size:=hw3;omega
     rw[List.getD_eq_getElem?_getD,List.getElem?_eq_getElem hd] at h5;rw[List.getElem_drop,List.getElem_take];exact h5
    rw[hdr,alm _ _ _ hm]
    cases st with
    | none =>
     simp only;rw[Sl s f (pos+w) (some pos) acc (by omega) (by omega) (λa e=>by cases e;omega)];rfl
    | some a =>
     have ha:=hst a rfl;simp only;rw[Sl s f (pos+w) (some a) acc (by omega) (by omega) (λb e=>by cases e;omega)];congr 2;show(s.data.toList.take (pos+w)).drop a=(s.data.toList.take pos).drop a++(s.data.toList.take (pos+w)).drop pos
     have h6:s.data.toList.take (pos+w)=s.data.toList.take pos++(s.data.toList.take (pos+w)).drop pos:=by have:=List.take_append_drop pos (s.data.toList.take (pos+w));rw[List.take_take,Nat.min_eq_left (by omega)] at this;exact this.symm
     conv=>lhs;rw[h6]
     rw[List.drop_append_of_le_length (by simp;omega)]
  ·have he:s.data.toList.drop pos = []:=List.drop_eq_nil_of_le (by simp;omega);have:=Sl s 0 pos st acc (by omega) hp hst;rw[Lib.spansFromP_end _ _ _ _ _ _ hlt];rw[Lib.spansFromP] at this;exact this
theorem aDV (s:ByteArray):(Lib.goFieldsP Kb s).map (·.data.toList)=wl [] s.data.toList:=by have:=Sl s s.size 0 none [] (by omega) (by omega) (λa e=>by cases e);rw[List.map_nil,List.nil_append,List.drop_zero] at this;unfold Lib.goFieldsP Lib.spansOfP;rw[List.map_map];exact this
end Go.Proofs.YtippohicjhilnaaGreatDoor.Sc
