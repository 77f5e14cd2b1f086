import Derived.Lib.Split
import Derived.Lib.FieldsP
import Derived.Lib.ItoaNum
import Derived.Lib.DecodeN
set_option linter.unusedSimpArgs false
set_option linter.unusedVariables false
namespace Go.Proofs.YtbembkamcdlhbaaGreatDoor.Sc
open Go
abbrev By:=List UInt8
def lines:By→List By
 | []=>[[]]
 | c::t=>if c=10 then []::lines t else match lines t with
  | []=>[[c]]
  | l::ls=>(c::l)::ls
theorem ZC:∀ s,lines s ≠ []
 | []=>by simp[lines]
 | c::t=>by
  unfold lines
  split
  ·simp
  ·split<;>simp
theorem lines_cons (c:UInt8) (t:By) (h:c≠10):∃ l ls,lines t=l::ls∧lines (c::t)=(c::l)::ls:=by
 cases hl:lines t with
 | nil=>exact absurd hl (ZC t)
 | cons l ls=>exact⟨l,ls,rfl,by rw[lines,if_neg h,hl]⟩
theorem Fj (b:By):∀ a:By,lines (a++10::b)=lines a++lines b
 | []=>by simp[lines]
 | c::t=>by
  have ih:=Fj b t
  rw[List.cons_append]
  by_cases h:c=10
  ·subst h;simp only[lines,if_pos,ih,List.cons_append]
  ·obtain⟨l,ls,h1,h2⟩:=lines_cons c t h
   rw[h2,lines,if_neg h,ih,h1];rfl
theorem lines_free:∀ s:By,(10:UInt8)∉s→lines s = [s]
 | [],_=>rfl
 | c::t,h=>by
  have hc:c≠10:=fun e=>h (by rw[e];simp)
  rw[lines,if_neg hc,lines_free t (fun e=>h (List.mem_cons_of_mem _ e))]
theorem ZE:∀ s:By,(10:UInt8)∈s→∃ a b,s=a++10::b∧(10:UInt8)∉a
 | c::t,h=>by
  by_cases hc:c=10
  ·exact⟨[],t,by rw[hc];rfl,by simp⟩
  ·obtain⟨a,b,h1,h2⟩:=ZE t (by rcases List.mem_cons.1 h with e|e;exact absurd e.symm hc;exact e)
   exact⟨c::a,b,by rw[h1];rfl,fun e=>by rcases List.mem_cons.1 e with e|e;exact hc e.symm;exact h2 e⟩
theorem ZF:∀ s:By,(10:UInt8)∉s→Lib.index s [10] = -1
 | [],_=>rfl
 | c::t,h=>by
  have hc:¬ c=10:=fun e=>h (by rw[e];simp)
  have ih:=ZF t (fun e=>h (List.mem_cons_of_mem _ e))
  have hc2:((10:UInt8)==c)=false:=by rw[beq_eq_false_iff_ne];exact fun e=>hc e.symm
  unfold Lib.index
  simp[List.isPrefixOf,hc2,ih]
theorem ZG (b:By):∀ a:By,(10:UInt8)∉a→Lib.index (a++10::b) [10]=(a.length:Int)
 | [],_=>by simp[Lib.index,List.isPrefixOf]
 | c::t,h=>by
  have hc:¬ c=10:=fun e=>h (by rw[e];simp)
  have ih:=ZG b t (fun e=>h (List.mem_cons_of_mem _ e))
  have hc2:((10:UInt8)==c)=false:=by rw[beq_eq_false_iff_ne];exact fun e=>hc e.symm
  have hn:((t.length:Int) == -1)=false:=by rw[beq_eq_false_iff_ne];omega
  rw[List.cons_append]
  unfold Lib.index
  simp[List.isPrefixOf,hc2,ih,hn]
theorem split_lines:∀ (n:Nat) (s:By),s.length≤n→Lib.splitK [10] 0 (Lib.count s [10]) s=lines s:=by
 intro n
 induction n with
 | zero =>
  intro s hs
  have:s = []:=List.length_eq_zero_iff.1 (by omega)
  subst this;rfl
 | succ n ih =>
  intro s hs
  by_cases h:(10:UInt8)∈s
  ·obtain⟨a,b,rfl,ha⟩:=ZE s h
   have hi:=ZG b a ha
   rw[Lib.count_hit (by simp) hi,Nat.add_comm,Lib.splitK,if_neg (by rw[hi];simp),Fj,lines_free a ha,hi]
   have hd:(a++10::b).drop (a.length+1)=b:=by
    rw[← List.drop_drop,List.drop_left];rfl
   have h1 : [(10:UInt8)].length=1:=rfl
   simp only[Int.toNat_natCast,Nat.add_zero,List.take_left,List.length_cons,List.length_nil,Nat.zero_add,hd]
   rw[ih b (by simp at hs;omega)]
   rfl
  ·rw[Lib.count_miss (ZF s h),lines_free s h];rfl
theorem KW:∀ s:By,(lines s).length≤s.length+1
 | []=>by simp[lines]
 | c::t=>by
  have ih:=KW t
  by_cases h:c=10
  ·rw[lines,if_pos h];simp;omega
  ·obtain⟨l,ls,h1,h2⟩:=lines_cons c t h
   rw[h2];rw[h1] at ih;simp at ih ⊢;omega
section
variable {C:Type} (words:By→List By) (cmd:List By→Option C)
def skip (l:List By):Bool:=match l with | []=>true|w::_=>w.head? == some 35
def parse:Nat→List C→List By→List C×Nat×Nat
 | _,out,[]=>(out,0,0)
 | i,out,s::ls=>if skip (words s)=true then parse (i+1) out ls else if out.length=4096 then([],i+1,2) else match cmd (words s) with
  | none=>([],i+1,3)
  | some c=>parse (i+1) (out ++ [c]) ls
theorem parse_cons (i:Nat) (out:List C) (s:By) (ls:List By):parse words cmd i out (s::ls)=if skip (words s)=true then parse words cmd (i+1) out ls else if out.length=4096 then([],i+1,2) else match cmd (words s) with
  | none=>([],i+1,3)
  | some c=>parse words cmd (i+1) (out ++ [c]) ls:=by rw[parse]
theorem parse_line:∀ (ls:List By) (i:Nat) (out:List C),(parse words cmd i out ls).2.2=0→(parse words cmd i out ls).2.1=0
 | [],_,_,_=>rfl
 | s::ls,i,out,h=>by
  unfold parse at h ⊢
  split
  ·rename_i hs;rw[if_pos hs] at h;exact parse_line ls _ _ h
  ·rename_i hs;rw[if_neg hs] at h
   split
   ·rename_i hl;rw[if_pos hl] at h;cases h
   ·rename_i hl;rw[if_neg hl] at h
    split
    ·rename_i hc;rw[hc] at h;cases h
    ·rename_i c hc;rw[hc] at h;exact parse_line ls _ _ h
theorem KX:∀ (ls:List By) (i j:Nat) (out:List C),(parse words cmd i out ls).2.2=0→parse words cmd j out ls=parse words cmd i out ls
 | [],_,_,_,_=>rfl
 | s::ls,i,j,out,h=>by
  unfold parse at h ⊢
  split
  ·rename_i hs;rw[if_pos hs] at h;exact KX ls _ _ _ h
  ·rename_i hs;rw[if_neg hs] at h
   split
   ·rename_i hl;rw[if_pos hl] at h;cases h
   ·rename_i hl;rw[if_neg hl] at h
    split
    ·rename_i hc;rw[hc] at h;cases h
    ·rename_i c hc;rw[hc] at h;exact KX ls _ _ _ h
theorem KY:∀ (ls:List By) (i:Nat) (out:List C),out.length+ls.length<4096 →
  ((parse words cmd i [] ls).2.2=0→parse words cmd i out ls=(out++(parse words cmd i [] ls).1,0,0))∧((parse words cmd i [] ls).2.2≠0→parse words cmd i out ls=parse words cmd i [] ls)
 | [],i,out,_=>by simp[parse]
 | s::ls,i,out,h=>by
  simp only[List.length_cons] at h
  simp only[parse_cons]
  by_cases hs:skip (words s)=true
  ·simp only[if_pos hs];exact KY ls _ _ (by omega)
  ·simp only[if_neg hs,if_neg (show ¬ out.length=4096 by omega),if_neg (show ¬ ([]:List C).length=4096 by simp)]
   cases hc:cmd (words s) with
   | none=>simp
   | some c =>
    simp only
    have h1:=KY ls (i+1) (out ++ [c]) (by simp;omega)
    have h2:=KY ls (i+1) ([] ++ [c]) (by simp;omega)
    by_cases he:(parse words cmd (i+1) [] ls).2.2=0
    ·rw[h1.1 he,h2.1 he];simp
    ·rw[h1.2 he,h2.2 he]
     exact⟨fun h=>absurd h he,fun _=>rfl⟩
theorem R9:∀ (A:List By) (i:Nat) (out:List C) (B:List By),
  ((parse words cmd i out A).2.2=0→parse words cmd i out (A++B)=parse words cmd (i+A.length) (parse words cmd i out A).1 B)∧((parse words cmd i out A).2.2≠0→parse words cmd i out (A++B)=parse words cmd i out A)
 | [],i,out,B=>by simp[parse]
 | s::A,i,out,B=>by
  rw[List.cons_append,List.length_cons,show i+(A.length+1)=i+1+A.length by omega]
  simp only[parse_cons]
  by_cases hs:skip (words s)=true
  ·simp only[if_pos hs];exact R9 A _ _ _
  ·simp only[if_neg hs]
   by_cases hl:out.length=4096
   ·simp[if_pos hl]
   ·simp only[if_neg hl]
    cases hc:cmd (words s) with
    | none=>simp
    | some c=>exact R9 A _ _ _
end
open Go
section
variable {C T:Type} (act:C→T→(By×Int)×T)
def say (i:Nat) (s:By) (e:Int):By:=Lib.itoa ((i:Int)+1)++32::(Lib.itoa e++10::(if e=0∧s ≠ [] then 32::32::(s ++ [10]) else []))
def play:Nat→T→List C→By
 | _,_,[]=>[]
 | i,st,c::cs=>say i (act c st).1.1 (act c st).1.2++play (i+1) (act c st).2 cs
def stAt:T→List C→T
 | st,[]=>st
 | st,c::cs=>stAt (act c st).2 cs
theorem play_app:∀ (a:List C) (i:Nat) (st:T) (b:List C),play act i st (a++b)=play act i st a++play act (i+a.length) (stAt act st a) b
 | [],i,st,b=>by simp[play,stAt]
 | c::a,i,st,b=>by
  rw[List.cons_append,play,play_app a,play,stAt,List.append_assoc,List.length_cons,show i+1+a.length=i+(a.length+1) by omega]
end
def ansL:Nat→List By→By
 | _,[]=>[]
 | k,l::ls=>if 2<l.length∧l.take 2 = [32,32] then l++10::ansL k ls else match k with
  | 0=>l.drop (l.length-2)++10::ansL 0 ls
  | k+1=>ansL k ls
def ended (s:By):List By:=(lines s).dropLast
theorem ai2 (a b:By):ended (a++10::b)=lines a++ended b:=by
 unfold ended
 rw[Fj,List.dropLast_append_of_ne_nil (ZC b)]
theorem ended_line (a b:By) (h:(10:UInt8)∉a):ended (a++10::b)=a::ended b:=by rw[ai2,lines_free a h];rfl
theorem ZH (n:Nat) (h:n<10):(UInt8.ofNat (48+n))≠10∧(UInt8.ofNat (48+n))≠32:=by
 have:∀ n:Fin 10,(UInt8.ofNat (48+n.1))≠10∧(UInt8.ofNat (48+n.1))≠32:=by decide
 exact this ⟨n,h⟩
theorem ai3 (u:Nat):(∀ c∈Lib.decDigits u,c≠10∧c≠32)∧Lib.decDigits u ≠ []:=by
 induction u using Nat.strongRecOn with
 | ind u ih =>
  by_cases h:u<10
  ·rw[Lib.decDigits_one h]
   exact⟨fun c hc=>by rw[List.mem_singleton.1 hc];exact ZH u h,by simp⟩
  ·rw[Lib.decDigits,dif_neg h]
   refine⟨fun c hc=>?_,by simp⟩
   rcases List.mem_append.1 hc with hc|hc
   ·exact(ih (u/10) (by omega)).1 c hc
   ·rw[List.mem_singleton.1 hc];exact ZH _ (Nat.mod_lt _ (by decide))
theorem itoa_nat (u:Nat):Lib.itoa (u:Int)=Lib.decDigits u:=by unfold Lib.itoa;rw[if_neg (by omega)];simp
theorem ai4 {e:Int} (he:e=0∨e=1):∃ c:UInt8,Lib.itoa e = [c]∧c≠10:=by
 rcases he with rfl|rfl
 ·exact⟨48,(itoa_nat 0).trans (Lib.decDigits_one (by decide)),by decide⟩
 ·exact⟨49,(itoa_nat 1).trans (Lib.decDigits_one (by decide)),by decide⟩
theorem ZI (i:Nat) {e:Int} (he:e=0∨e=1):∃ (c d:UInt8) (r:By),Lib.itoa e = [c]∧Lib.itoa ((i:Int)+1)++32::Lib.itoa e=d::(r ++ [32,c])∧d≠32∧(10:UInt8)∉(d::(r ++ [32,c])):=by
 obtain⟨c,hc,hc10⟩:=ai4 he
 have hd:=ai3 (i+1)
 rw[show((i:Int)+1)=((i+1:Nat):Int) by omega,itoa_nat,hc]
 cases hl:Lib.decDigits (i+1) with
 | nil=>exact absurd hl hd.2
 | cons d r =>
  rw[hl] at hd
  refine⟨c,d,r,rfl,by simp,(hd.1 d (by simp)).2,fun hm=>?_⟩
  rcases List.mem_cons.1 hm with h|h
  ·exact(hd.1 d (by simp)).1 h.symm
  ·rcases List.mem_append.1 h with h|h
   ·exact(hd.1 10 (List.mem_cons_of_mem _ h)).1 rfl
   ·simp at h;exact hc10 h.symm
theorem ZJ (i:Nat) (s:By) (e:Int) (rest:By):say i s e++rest=(Lib.itoa ((i:Int)+1)++32::Lib.itoa e)++10::((if e=0∧s ≠ [] then 32::32::(s ++ [10]) else [])++rest):=by
 unfold say;simp
theorem ZK (i:Nat) (s:By) {e:Int} (he:e=0∨e=1) (hs:(10:UInt8)∉s) (rest:By) :
  ansL 0 (ended (say i s e++rest))=32::(Lib.itoa e++10::((if e=0∧s ≠ [] then 32::32::(s ++ [10]) else [])++ansL 0 (ended rest))):=by
 obtain⟨c,d,r,h1,h2,h3,h4⟩:=ZI i he
 rw[ZJ,h2,ended_line _ _ h4,ansL,if_neg (by rintro⟨_,h⟩;cases r with|nil=>simp at h;exact h3 h|cons x r=>simp at h;exact h3 h.1)]
 have hdrop:(d::(r ++ [32,c])).drop ((d::(r ++ [32,c])).length-2) = [32,c]:=by
  rw[show d::(r ++ [32,c])=(d::r) ++ [32,c] by simp,show((d::r) ++ [32,c]).length-2=(d::r).length by simp,List.drop_left]
 simp only[hdrop,h1]
 have ht:ansL 0 (ended ((if e=0∧s ≠ [] then 32::32::(s ++ [10]) else [])++rest))=(if e=0∧s ≠ [] then 32::32::(s ++ [10]) else [])++ansL 0 (ended rest):=by
  by_cases hc:e=0∧s ≠ []
  ·rw[if_pos hc,show(32::32::(s ++ [10])++rest:By)=(32::32::s)++10::rest by simp,ended_line _ _ (by simp;exact hs),ansL,if_pos]
   ·simp
   ·refine⟨?_,rfl⟩
    cases s with
    | nil=>exact absurd rfl hc.2
    | cons x s=>simp
  ·rw[if_neg hc];rfl
 rw[ht];simp
theorem ZL (k i:Nat) (rest:By):ansL (k+1) (ended (say i [] 0++rest))=ansL k (ended rest):=by
 obtain⟨c,d,r,h1,h2,h3,h4⟩:=ZI i (e:=0) (.inl rfl)
 rw[ZJ,h2,ended_line _ _ h4,ansL,if_neg (by rintro⟨_,h⟩;cases r with|nil=>simp at h;exact h3 h|cons x r=>simp at h;exact h3 h.1)]
 simp
section
variable {C T:Type} (act:C→T→(By×Int)×T)
theorem ZM (hA:∀ c st,((act c st).1.2=0∨(act c st).1.2=1)∧(10:UInt8)∉(act c st).1.1):∀ (cs:List C) (i j:Nat) (st:T),ansL 0 (ended (play act i st cs))=ansL 0 (ended (play act j st cs))
 | [],_,_,_=>rfl
 | c::cs,i,j,st=>by
  rw[play,play,ZK i _ (hA c st).1 (hA c st).2,ZK j _ (hA c st).1 (hA c st).2,ZM hA cs (i+1) (j+1)]
end
open Go
section
variable {C T:Type} (words:By→List By) (cmd:List By→Option C) (act:C→T→(By×Int)×T) (st0:T)
def parseT (text:By):List C×Nat×Nat:=if 1048576<text.length then([],0,2) else parse words cmd 0 [] (lines text)
def runT (text:By):By×Nat×Nat:=match parseT words cmd text with
 | (l,_,0)=>(play act 0 st0 l,0,0)
 | (_,n,e)=>([],n,e)
theorem ZN (text:By):(runT words cmd act st0 text).2.2=(parseT words cmd text).2.2:=by
 unfold runT;split<;>rename_i h<;>simp[h]
theorem runT_s (text:By) (h:(parseT words cmd text).2.2=0):runT words cmd act st0 text=(play act 0 st0 (parseT words cmd text).1,0,0):=by
 unfold runT
 split
 ·rename_i h1;rw[h1]
 ·rename_i n e h1 h2;rw[h2] at h;exact absurd h h1
theorem parseT_le (text:By) (h:text.length≤1048576):parseT words cmd text=parse words cmd 0 [] (lines text):=by
 unfold parseT;rw[if_neg (by omega)]
theorem ai5 (ls:List By) (i j:Nat) (out:List C) (h:(parse words cmd i out ls).2.2≠0):(parse words cmd j out ls).2.2≠0:=fun h2=>by
 rw[KX words cmd ls j i out h2] at h;exact h h2
theorem Sa:∀ (ls:List By) (i:Nat) (out:List C),(parse words cmd i out ls).1.length≤out.length+ls.length
 | [],i,out=>by simp[parse]
 | s::ls,i,out=>by
  rw[parse_cons]
  split
  ·have:=Sa ls (i+1) out;simp;omega
  ·split
   ·simp
   ·split
    ·simp
    ·rename_i c hc;have:=Sa ls (i+1) (out ++ [c]);simp at this ⊢;omega
theorem ZO (A B:List By) (h:A.length+B.length<4096) :
  ((parse words cmd 0 [] A).2.2≠0∨(parse words cmd 0 [] B).2.2≠0→(parse words cmd 0 [] (A++B)).2.2≠0) ∧
  ((parse words cmd 0 [] A).2.2=0→(parse words cmd 0 [] B).2.2=0→parse words cmd 0 [] (A++B)=((parse words cmd 0 [] A).1++(parse words cmd 0 [] B).1,0,0)):=by
 have h1:=R9 words cmd A 0 [] B
 have hl:=Sa words cmd A 0 []
 simp only[List.length_nil,Nat.zero_add] at hl h1
 have h2:=KY words cmd B A.length (parse words cmd 0 [] A).1 (by omega)
 by_cases ha:(parse words cmd 0 [] A).2.2=0
 ·rw[h1.1 ha]
  by_cases hb:(parse words cmd 0 [] B).2.2=0
  ·have h3:=KX words cmd B 0 A.length [] hb
   refine⟨fun h=>?_,fun _ _=>?_⟩
   ·rcases h with h|h
    ·exact absurd ha h
    ·exact absurd hb h
   ·rw[h2.1 (by rw[h3];exact hb),h3]
  ·have h3:=ai5 words cmd B 0 A.length [] hb
   exact⟨fun _=>by rw[h2.2 h3];exact h3,fun _ h=>absurd h hb⟩
 ·exact⟨fun _=>by rw[h1.2 ha];exact ha,fun h=>absurd h ha⟩
theorem tail_law (a b:By) (ha:a.length≤1500) (hb:b.length≤1500) :
  ((runT words cmd act st0 a).2.2≠0∨(runT words cmd act st0 b).2.2≠0→(runT words cmd act st0 (a++10::b)).2.2≠0) ∧
  ((runT words cmd act st0 a).2.2=0→(runT words cmd act st0 b).2.2=0→(runT words cmd act st0 (a++10::b)).2.2=0∧∃ t,(runT words cmd act st0 (a++10::b)).1=(runT words cmd act st0 a).1++t):=by
 have la:=KW a
 have lb:=KW b
 have h:=ZO words cmd (lines a) (lines b) (by omega)
 rw[← Fj] at h
 simp only[ZN,parseT_le words cmd _ (show(a++10::b).length≤1048576 by simp;omega),parseT_le words cmd a (by omega),parseT_le words cmd b (by omega)]
 refine⟨h.1,fun h1 h2=>?_⟩
 have h3:=h.2 h1 h2
 refine⟨by rw[h3],?_⟩
 rw[runT_s words cmd act st0 (a++10::b) (by rw[parseT_le words cmd _ (by simp;omega),h3]),runT_s words cmd act st0 a (by rw[parseT_le words cmd _ (by omega),h1])]
 rw[parseT_le words cmd _ (show(a++10::b).length≤1048576 by simp;omega),h3,parseT_le words cmd a (by omega)]
 exact⟨_,play_app act _ 0 st0 _⟩
theorem fresh_law (hA:∀ c st,((act c st).1.2=0∨(act c st).1.2=1)∧(10:UInt8)∉(act c st).1.1) (l1 l2:By) (c1 c2:C) (h1:(10:UInt8)∉l1) (h2:(10:UInt8)∉l2) (hn:l1.length+l2.length≤100)
  (hs1:skip (words l1)=false) (hs2:skip (words l2)=false) (hc1:cmd (words l1)=some c1) (hc2:cmd (words l2)=some c2)
  (ha1:∀ st,(act c1 st).1=([],0)) (ha2:∀ st,act c2 (act c1 st).2=(([],0),st0))
  (a b:By) (ha:a.length≤1500) (hb:b.length≤1500) (e1:(runT words cmd act st0 a).2.2=0) (e2:(runT words cmd act st0 b).2.2=0) :
  (runT words cmd act st0 (a++10::(l1++10::(l2++10::b)))).2.2=0∧∃ t,(runT words cmd act st0 (a++10::(l1++10::(l2++10::b)))).1=(runT words cmd act st0 a).1++t∧ansL 2 (ended t)=ansL 0 (ended (runT words cmd act st0 b).1):=by
 have la:=KW a
 have lb:=KW b
 have hlen:(a++10::(l1++10::(l2++10::b))).length≤1048576:=by simp;omega
 rw[ZN,parseT_le words cmd _ (by omega)] at e1 e2
 have hB:parse words cmd 0 [] (l1::l2::lines b)=(c1::c2::(parse words cmd 0 [] (lines b)).1,0,0):=by
  rw[parse_cons,if_neg (by simp[hs1]),if_neg (by simp),hc1]
  show parse words cmd 1 ([] ++ [c1]) (l2::lines b)=_
  rw[parse_cons,if_neg (by simp[hs2]),if_neg (by simp),hc2]
  show parse words cmd 2 ([] ++ [c1] ++ [c2]) (lines b)=_
  have h3:=(KY words cmd (lines b) 2 ([] ++ [c1] ++ [c2]) (by simp;omega)).1
  have h4:=KX words cmd (lines b) 0 2 [] e2
  rw[h4] at h3
  rw[h3 e2];simp
 have hL:lines (a++10::(l1++10::(l2++10::b)))=lines a++(l1::l2::lines b):=by
  rw[Fj,Fj,Fj,lines_free l1 h1,lines_free l2 h2];rfl
 have hP:=(ZO words cmd (lines a) (l1::l2::lines b) (by simp;omega)).2 e1 (by rw[hB])
 rw[hB] at hP
 have hpt:parseT words cmd (a++10::(l1++10::(l2++10::b)))=_:=(parseT_le words cmd _ hlen).trans ((congrArg _ hL).trans hP)
 have hr:=runT_s words cmd act st0 _ (show(parseT words cmd (a++10::(l1++10::(l2++10::b)))).2.2=0 by rw[hpt])
 refine⟨by rw[hr],?_⟩
 rw[hr,hpt,runT_s words cmd act st0 a (by rw[parseT_le words cmd _ (by omega),e1]),runT_s words cmd act st0 b (by rw[parseT_le words cmd _ (by omega),e2]),parseT_le words cmd a (by omega),parseT_le words cmd b (by omega)]
 refine⟨_,play_app act _ 0 st0 _,?_⟩
 rw[play,play,ha1,ha2,ZL,ZL]
 exact ZM act hA _ _ _ _
def ins (k:Nat) (more:By):Nat→By→By
 | _,[]=>[]
 | n,c::t=>if c=10 then 10::(if n+1=k then more++10::ins k more (n+1) t else ins k more (n+1) t) else c::ins k more n t
end
open Go
def Cr (r:Nat):Bool:=decide (r=32)||(decide (r=9)||decide (r=13))
def wl:By→By→List By
 | cur,[]=>if cur = [] then [] else [cur]
 | cur,c::t=>if Cr c.toNat=true then(if cur = [] then wl [] t else cur::wl [] t) else wl (cur ++ [c]) t
theorem ZP (s:ByteArray) (i:Nat):s.data.toList.getD i 0=s.get! i:=by
 cases s with
 | mk d =>
  show d.toList.getD i 0=d[i]!
  by_cases h:i<d.size
  ·rw[getElem!_pos d i h];simp[List.getD,h]
  ·rw[getElem!_neg d i h];simp[List.getD,h];rfl
theorem ai6 (n b0 b1 b2 b3:Nat) (hn:0<n) (h0:128≤b0) :
  128≤(Lib.decodeN n b0 b1 b2 b3).1∧((Lib.decodeN n b0 b1 b2 b3).2=1∨((Lib.decodeN n b0 b1 b2 b3).2=2∧1<n∧128≤b1)∨((Lib.decodeN n b0 b1 b2 b3).2=3∧2<n∧128≤b1∧128≤b2)∨((Lib.decodeN n b0 b1 b2 b3).2=4∧3<n∧128≤b1∧128≤b2∧128≤b3)):=by
 unfold Lib.decodeN
 rw[if_neg (by omega)]
 split
 ·rename_i h;split
  ·rename_i h2;exact⟨h2,.inr (.inl ⟨rfl,by omega⟩)⟩
  ·exact⟨by decide,.inl rfl⟩
 ·split
  ·rename_i h;split
   ·rename_i h2;exact⟨by have:=h2.1;show 128≤_;omega,.inr (.inr (.inl ⟨rfl,by omega⟩))⟩
   ·exact⟨by decide,.inl rfl⟩
  ·split
   ·rename_i h;split
    ·rename_i h2;exact⟨by have:=h2.1;show 128≤_;omega,.inr (.inr (.inr ⟨rfl,by omega⟩))⟩
    ·exact⟨by decide,.inl rfl⟩
   ·exact⟨by decide,.inl rfl⟩
theorem ai7 (s:ByteArray) (pos:Nat) (h:pos<s.size) :
  ((s.get! pos).toNat<128∧Utf8.decode s pos=((s.get! pos).toNat,1)) ∨
  (128≤(Utf8.decode s pos).1∧1≤(Utf8.decode s pos).2∧pos+(Utf8.decode s pos).2≤s.size∧∀ k,k<(Utf8.decode s pos).2→128≤(s.get! (pos+k)).toNat):=by
 rw[Lib.decode_at]
 by_cases h0:(s.get! pos).toNat<128
 ·left;refine⟨h0,?_⟩
  unfold Lib.decodeN;rw[if_pos h0]
 ·right
  obtain⟨h1,h2⟩:=ai6 (s.size-pos) (s.get! pos).toNat (s.get! (pos+1)).toNat (s.get! (pos+2)).toNat (s.get! (pos+3)).toNat (by omega) (by omega)
  generalize Lib.decodeN (s.size-pos) (s.get! pos).toNat (s.get! (pos+1)).toNat (s.get! (pos+2)).toNat (s.get! (pos+3)).toNat=d at h1 h2
  refine⟨h1,by omega,by omega,fun k hk=>?_⟩
  have hk4:k=0∨k=1∨k=2∨k=3:=by omega
  rcases hk4 with rfl|rfl|rfl|rfl
  ·rw[Nat.add_zero];omega
  ·omega
  ·omega
  ·omega
theorem ZQ:∀ (m t:By) (cur:By),(∀ c∈m,Cr c.toNat=false)→wl cur (m++t)=wl (cur++m) t
 | [],t,cur,_=>by simp
 | c::m,t,cur,h=>by
  rw[List.cons_append,wl,if_neg (by simp[h c (by simp)]),ZQ m t (cur ++ [c]) (fun x hx=>h x (List.mem_cons_of_mem _ hx))]
  simp
theorem ext_eq (s:ByteArray) (a b:Nat):(s.extract a b).data.toList=(s.data.toList.take b).drop a:=by
 rw[ByteArray.data_extract,Array.toList_extract]
 simp[List.extract,List.drop_take]
theorem ZR {r:Nat} (h:128≤r):Cr r=false:=by
 unfold Cr
 simp only[Bool.or_eq_false_iff,decide_eq_false_iff_not]
 omega
def cur (s:ByteArray) (pos:Nat):Option Nat→By
 | none=>[]
 | some a=>(s.data.toList.take pos).drop a
theorem Jh (s:ByteArray):∀ (f pos:Nat) (st:Option Nat) (acc:List (Nat×Nat)),s.size≤pos+f→pos≤s.size→(∀ a,st=some a→a<pos) →
  (Lib.closeSpans s (Lib.spansFromP Cr s f pos st acc)).map (fun x=>(s.extract x.1 x.2).data.toList)=acc.map (fun x=>(s.extract x.1 x.2).data.toList)++wl (cur s pos st) (s.data.toList.drop pos)
 | 0,pos,st,acc,hf,hp,hst=>by
  have he:s.data.toList.drop pos = []:=List.drop_eq_nil_of_le (by simp;omega)
  have hps:pos=s.size:=by omega
  rw[he,wl,Lib.spansFromP]
  cases st with
  | none=>simp[Lib.closeSpans,cur]
  | some a =>
   have ha:=hst a rfl
   have hne:(s.data.toList.take pos).drop a ≠ []:=by
    intro e
    have:=congrArg List.length e
    simp at this;omega
   rw[show cur s pos (some a)=(s.data.toList.take pos).drop a from rfl,if_neg hne,Lib.closeSpans]
   simp only[List.map_append,List.map_cons,List.map_nil,ext_eq]
   rw[hps]
 | f+1,pos,st,acc,hf,hp,hst=>by
  by_cases hlt:pos<s.size
  ·have hw:=ai7 s pos hlt
   have hget:s.data.toList.drop pos=s.get! pos::s.data.toList.drop (pos+1):=by
    rw[← ZP]
    have:pos<s.data.toList.length:=by simpa using hlt
    rw[List.drop_eq_getElem_cons this,List.getD_eq_getElem?_getD,List.getElem?_eq_getElem this];rfl
   unfold Lib.spansFromP
   rw[if_pos hlt]
   by_cases hb:Cr (Utf8.decode s pos).1=true
   ·rw[if_pos hb]
    have hb2:Utf8.decode s pos=((s.get! pos).toNat,1):=by
     rcases hw with h|h
     ·exact h.2
     ·rw[ZR h.1] at hb;cases hb
    rw[hb2] at hb ⊢
    simp only at hb ⊢
    rw[hget,wl,if_pos hb]
    cases st with
    | none =>
     rw[Jh s f (pos+1) none acc (by omega) (by omega) (fun a e=>by cases e)]
     rfl
    | some a =>
     have ha:=hst a rfl
     have hne:(s.data.toList.take pos).drop a ≠ []:=by
      intro e
      have:=congrArg List.length e
      simp at this;omega
     simp only
     rw[Jh s f (pos+1) none (acc ++ [(a,pos)]) (by omega) (by omega) (fun a e=>by cases e),show cur s pos (some a)=(s.data.toList.take pos).drop a from rfl,if_neg hne]
     simp only[List.map_append,List.map_cons,List.map_nil,ext_eq]
     simp[cur]
   ·rw[if_neg hb]
    obtain⟨w,hw1,hw2,hw3,hw4⟩:∃ w,(Utf8.decode s pos).2=w∧1≤w∧pos+w≤s.size∧∀ k,k<w→Cr (s.get! (pos+k)).toNat=false:=by
     rcases hw with h|h
     ·refine⟨1,by rw[h.2],Nat.le_refl _,by omega,fun k hk=>?_⟩
      obtain rfl:k=0:=by omega
      rw[h.2] at hb
      simpa using hb
     ·exact⟨_,rfl,h.2.1,h.2.2.1,fun k hk=>ZR (h.2.2.2 k hk)⟩
    rw[hw1]
    have hdr:s.data.toList.drop pos=((s.data.toList.take (pos+w)).drop pos)++s.data.toList.drop (pos+w):=by
     have:=List.take_append_drop w (s.data.toList.drop pos)
     rw[List.drop_drop] at this
     rw[← this,List.drop_take]
     simp
    have hm:∀ c∈(s.data.toList.take (pos+w)).drop pos,Cr c.toNat=false:=fun c hc=>by
     obtain⟨k,hk,rfl⟩:=List.mem_iff_getElem.1 hc
     have hk2:k<w:=by simp at hk;omega
     have h5:=hw4 k hk2
     rw[← ZP] at h5
     have hd:pos+k<s.data.toList.length:=by simp;have:pos+w≤s.data.size:=hw3;omega
     rw[List.getD_eq_getElem?_getD,List.getElem?_eq_getElem hd] at h5
     rw[List.getElem_drop,List.getElem_take]
     exact h5
    rw[hdr,ZQ _ _ _ hm]
    cases st with
    | none =>
     simp only
     rw[Jh s f (pos+w) (some pos) acc (by omega) (by omega) (fun a e=>by cases e;omega)]
     rfl
    | some a =>
     have ha:=hst a rfl
     simp only
     rw[Jh s f (pos+w) (some a) acc (by omega) (by omega) (fun b e=>by cases e;omega)]
     congr 2
     show(s.data.toList.take (pos+w)).drop a=(s.data.toList.take pos).drop a++(s.data.toList.take (pos+w)).drop pos
     have h6:s.data.toList.take (pos+w)=s.data.toList.take pos++(s.data.toList.take (pos+w)).drop pos:=by
      have:=List.take_append_drop pos (s.data.toList.take (pos+w))
      rw[List.take_take,Nat.min_eq_left (by omega)] at this
      exact this.symm
     conv=>lhs;rw[h6]
     rw[List.drop_append_of_le_length (by simp;omega)]
  ·have he:s.data.toList.drop pos = []:=List.drop_eq_nil_of_le (by simp;omega)
   have:=Jh s 0 pos st acc (by omega) hp hst
   rw[Lib.spansFromP_end _ _ _ _ _ _ hlt]
   rw[Lib.spansFromP] at this
   exact this
theorem words_wl (s:ByteArray):(Lib.goFieldsP Cr s).map (·.data.toList)=wl [] s.data.toList:=by
 have:=Jh s s.size 0 none [] (by omega) (by omega) (fun a e=>by cases e)
 rw[List.map_nil,List.nil_append,List.drop_zero] at this
 unfold Lib.goFieldsP Lib.spansOfP
 rw[List.map_map]
 exact this
end Go.Proofs.YtbembkamcdlhbaaGreatDoor.Sc
