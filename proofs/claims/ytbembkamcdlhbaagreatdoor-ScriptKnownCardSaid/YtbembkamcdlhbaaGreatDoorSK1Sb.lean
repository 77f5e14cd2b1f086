import Derived.Test.YtbembkamcdlhbaaGreatDoorZ8Sb
set_option linter.unusedSimpArgs false
set_option linter.unusedVariables false
set_option maxRecDepth 100000
set_option maxHeartbeats 4000000
namespace Go.Proofs.YtbembkamcdlhbaaGreatDoor.Sp
open Go.RowKit Go.Shelf FlagM
attribute [local go_sem] Oper.semAt_some
theorem Lm (l:Sc.By):(sJ l).data.toList=l:=by simp[sJ]
theorem abe (t:Sc.By) (l e:Nat) (hl:t.length≤1048576) (he:e≠0) (h:Sc.parse (Sc.wl []) uj 0 [] (Sc.lines t)=([],l,e)):(tV (sJ t)).2=(l,e)∧Az (sJ t)=([],l,e):=by
 have hp:tV (sJ t)=([],l,e):=by
  rw[Cv,NJ,Lm]
  exact(Sc.parseT_le _ _ t hl).trans h
 refine⟨by rw[hp],?_⟩
 rw[aag _ (by rw[hp];exact he),hp]
def kb (k:Nat):Sc.By×Nat×Nat:=match k with
 | 0=>([65,100,100,32,98,49,54,32,48,32,48],1,3)
 | 1=>([101,110,118,32,117,112],1,3)
 | 2=>([101,110,118,32,117,112,32,110,101,118,101,114],1,3)
 | 3=>([97,100,100,32,98,49,54,32,48],1,3)
 | 4=>([97,100,100,32,98,49,54,32,48,32,48,32,48],1,3)
 | 5=>([97,100,100,32,98,49,55,32,48,32,48],1,3)
 | 6=>([97,100,100,32,98,49,54,32,48,32,103],1,3)
 | 7=>([97,100,100,32,98,49,54,32,48,32,65],1,3)
 | 8=>([115,113,114,116,32,98,49,54,32,48,48,48,48,48,48,48,48,48,48,48,48,48,48,48,48,48,48,48,48,48,48,48,48,48,48,48,48,48,48,48,48,48],1,3)
 | 9=>([105,110,116,32,98,49,54,32,98,51,50,32,48],1,3)
 | 10=>([102,114,111,109,32,98,49,54,32,105,51,50,32,48],1,3)
 | 11=>([115,116,105,99,107,121,32,49],1,3)
 | 12=>([35,10,10,99,108,101,97,114,32,120],3,3)
 | _=>(Sc.rep 4097 [99,108,101,97,114,10],4097,2)
theorem amt:Sc.parse (Sc.wl []) uj 0 [] (Sc.lines (kb 0).1)=([],(kb 0).2.1,(kb 0).2.2):=by kernel_rfl
theorem amu:Sc.parse (Sc.wl []) uj 0 [] (Sc.lines (kb 1).1)=([],(kb 1).2.1,(kb 1).2.2):=by kernel_rfl
theorem amv:Sc.parse (Sc.wl []) uj 0 [] (Sc.lines (kb 2).1)=([],(kb 2).2.1,(kb 2).2.2):=by kernel_rfl
theorem amw:Sc.parse (Sc.wl []) uj 0 [] (Sc.lines (kb 3).1)=([],(kb 3).2.1,(kb 3).2.2):=by kernel_rfl
theorem amx:Sc.parse (Sc.wl []) uj 0 [] (Sc.lines (kb 4).1)=([],(kb 4).2.1,(kb 4).2.2):=by kernel_rfl
theorem amy:Sc.parse (Sc.wl []) uj 0 [] (Sc.lines (kb 5).1)=([],(kb 5).2.1,(kb 5).2.2):=by kernel_rfl
theorem amz:Sc.parse (Sc.wl []) uj 0 [] (Sc.lines (kb 6).1)=([],(kb 6).2.1,(kb 6).2.2):=by kernel_rfl
theorem amA:Sc.parse (Sc.wl []) uj 0 [] (Sc.lines (kb 7).1)=([],(kb 7).2.1,(kb 7).2.2):=by kernel_rfl
theorem amB:Sc.parse (Sc.wl []) uj 0 [] (Sc.lines (kb 8).1)=([],(kb 8).2.1,(kb 8).2.2):=by kernel_rfl
theorem amC:Sc.parse (Sc.wl []) uj 0 [] (Sc.lines (kb 9).1)=([],(kb 9).2.1,(kb 9).2.2):=by kernel_rfl
theorem amD:Sc.parse (Sc.wl []) uj 0 [] (Sc.lines (kb 10).1)=([],(kb 10).2.1,(kb 10).2.2):=by kernel_rfl
theorem amE:Sc.parse (Sc.wl []) uj 0 [] (Sc.lines (kb 11).1)=([],(kb 11).2.1,(kb 11).2.2):=by kernel_rfl
theorem amF:Sc.parse (Sc.wl []) uj 0 [] (Sc.lines (kb 12).1)=([],(kb 12).2.1,(kb 12).2.2):=by kernel_rfl
theorem amG (k:Nat) (hk:k<13):Sc.parse (Sc.wl []) uj 0 [] (Sc.lines (kb k).1)=([],(kb k).2.1,(kb k).2.2):=by
 obtain rfl|rfl|rfl|rfl|rfl|rfl|rfl|rfl|rfl|rfl|rfl|rfl|rfl:k=0∨k=1∨k=2∨k=3∨k=4∨k=5∨k=6∨k=7∨k=8∨k=9∨k=10∨k=11∨k=12:=by omega
 ·exact amt
 ·exact amu
 ·exact amv
 ·exact amw
 ·exact amx
 ·exact amy
 ·exact amz
 ·exact amA
 ·exact amB
 ·exact amC
 ·exact amD
 ·exact amE
 ·exact amF
theorem amH (k:Fin 13):(kb k.1).1.length≤1048576∧(kb k.1).2.2≠0∧Sc.parse (Sc.wl []) uj 0 [] (Sc.lines (kb k.1).1)=([],(kb k.1).2.1,(kb k.1).2.2):=by
 have h:∀ k:Fin 13,decide ((kb k.1).1.length≤1048576)=true∧(kb k.1).2.2≠0:=by decide
 refine⟨by simpa using(h k).1,(h k).2,?_⟩
 exact amG k.1 k.2
theorem Tg:Sc.skip (Sc.wl [] [99,108,101,97,114])=false:=by kernel_rfl
theorem abf:uj (Sc.wl [] [99,108,101,97,114])=some .clear:=by kernel_rfl
theorem abg (n:Nat):Sc.lines (Sc.rep n [99,108,101,97,114,10])=List.replicate n [99,108,101,97,114] ++ [[]]:=by
 have h:=Sc.lines_rep [99,108,101,97,114] (by decide) [] n
 rw[List.append_nil] at h
 exact h
theorem amI:Sc.parse (Sc.wl []) uj 0 [] (Sc.lines (Sc.rep 4097 [99,108,101,97,114,10]))=([],4097,2):=by
 rw[abg,show(4097:Nat)=4096+1 from rfl,← List.replicate_append_replicate,List.append_assoc,Sc.parse_rep _ _ _ _ Tg abf _ 4096 0 [] (by simp)]
 rw[show(List.replicate 1 [99,108,101,97,114] ++ [[]]:List Sc.By) = [99,108,101,97,114] :: [[]] from rfl,Sc.parse_cons,if_neg (by rw[Tg];decide),if_pos (by simp)]
theorem amJ (k:Nat) (hk:k<14):(tV (sJ (kb k).1)).2=((kb k).2.1,(kb k).2.2)∧Az (sJ (kb k).1)=([],(kb k).2.1,(kb k).2.2):=by
 by_cases h:k<13
 ·obtain⟨a,b,c⟩:=amH ⟨k,h⟩
  exact abe _ _ _ a b c
 ·obtain rfl:k=13:=by omega
  exact abe (Sc.rep 4097 [99,108,101,97,114,10]) 4097 2 (by rw[Sc.rep_len];simp) (by decide) amI
theorem amK (n:Nat) (hn:n≤4096):(Sc.parse (Sc.wl []) uj 0 [] (List.replicate n [99,108,101,97,114] ++ [[]])).2.2=0:=by
 rw[Sc.parse_rep _ _ _ _ Tg abf _ n 0 [] (by simp;omega)]
 rw[Sc.parse_cons,if_pos (by decide),Sc.parse]
theorem amL (n:Nat) (hn:n≤4096):(tV (sJ (Sc.rep n [99,108,101,97,114,10]))).2.2=0:=by
 rw[Cv,NJ,Lm,Sc.parseT_le _ _ _ (by rw[Sc.rep_len];simp;omega),abg]
 exact amK n hn
theorem amM:(tV (sJ (Sc.rep 4096 [99,108,101,97,114,10]))).2.2=0:=amL 4096 (Nat.le_refl _)
theorem amN:∀ n,(10:UInt8)∉Sc.rep n [35]:=fun n h=>by have:=Sc.rep_mem _ _ n h;simp at this
theorem amO (n:Nat):Sc.rep (n+1) [35]=35::Sc.rep n [35]:=rfl
theorem amP (n:Nat) (hn:n+1≤1048576):(tV (sJ (Sc.rep (n+1) [35]))).2=(0,0):=by
 rw[Cv,NJ,Lm,Sc.parseT_le _ _ _ (by rw[Sc.rep_len];simp;omega),Sc.lines_free _ (amN _),Sc.parse_cons,amO,if_pos (Sc.skip_hash _),Sc.parse]
theorem amQ:(tV (sJ (Sc.rep 1048576 [35]))).2=(0,0):=amP 1048575 (Nat.le_refl _)
theorem amR:(tV (sJ (Sc.rep 1048577 [35]))).2=(0,2):=by
 rw[Cv,Lm]
 unfold Sc.parseT
 rw[if_pos (by rw[Sc.rep_len];simp)]
theorem abh (s:Sc.By) (m b:Nat):Sc.rep (2*m+b) s=Sc.rep b s++Sc.rep m (s++s):=by rw[Nat.add_comm,Sc.rep_add,Sc.rep_two]
theorem amS (w:World) (s:ByteArray) (n:Nat) (hn:n≤2000000) (hs:s.size≤6):Calls Tryz.prog 45 #[.string s,.int .i64 n] w fun e w'=>e = .returned (.string (sJ (Sc.rep n s.data.toList)))∧rq w w':=by
 obtain⟨R,hR⟩:∃ R,R=Sc.rep n s.data.toList:=⟨_,rfl⟩
 have hRl:R.length≤12000000:=by
  rw[hR,Sc.rep_len]
  have e:s.data.toList.length=s.size:=by simp
  rw[e]
  exact Nat.le_trans (Nat.mul_le_mul hn hs) (by decide)
 have hR:=Lib.hid hR
 rw[← hR.out]
 go_enter Tryz.func45,Tryz.ntmps45
 go_wp2
 go_loopw [0,1,5] (fun t c o W=>∃ (m:Nat) (T O:ByteArray),t = .string T∧c = .int .i64 (m:Int)∧o = .string O∧m≤2000000∧W=w∧Hid (O.data.toList++Sc.rep m T.data.toList=R)) (fun _ c _ _=>(intOf c).toNat)
 case atStart=>exact⟨n,s,⟨#[]⟩,rfl,rfl,rfl,hn,rfl,Lib.hid (by rw[hR.out];simp)⟩
 case round =>
  obtain⟨m,T,O,rfl,rfl,rfl,hm,rfl,hI⟩:=hrel
  have hlen:=congrArg List.length hI.out
  rw[List.length_append,Sc.rep_len] at hlen
  have eO:O.data.toList.length=O.size:=by simp
  have eT:T.data.toList.length=T.size:=by simp
  rw[eO,eT] at hlen
  by_cases h0:0<m
  ·have hT:T.size≤12000000:=by
    have:1*T.size≤m*T.size:=Nat.mul_le_mul h0 (Nat.le_refl _)
    omega
   have q1:(m:Int)>0:=by omega
   have z1:¬ (T.size+T.size>9223372036854775807):=by omega
   have q3:(m:Int).tdiv 2=((m/2:Nat):Int):=by rw[Int.tdiv_eq_ediv_of_nonneg (by omega)];omega
   by_cases hb:m%2=1
   ·have q2:((m:Int).tmod 2==1)=true:=by rw[Int.tmod_eq_emod_of_nonneg (by omega)];simp;omega
    have z2:¬ (O.size+T.size>9223372036854775807):=by omega
    have e:m=2*(m/2)+1:=by omega
    have hI2:=hI.out
    rw[e,abh] at hI2
    have hI2:=Lib.hid hI2
    clear hlen hI e
    go_wp2
    exact⟨⟨m/2,_,_,rfl,by simp,rfl,by omega,trivial,Lib.hid (by have:=hI2.out;simp[ByteArray.data_append,Sc.rep] at this ⊢;exact this)⟩,by simp only[intOf];omega⟩
   ·have q2:((m:Int).tmod 2==1)=false:=by rw[Int.tmod_eq_emod_of_nonneg (by omega)];simp;omega
    have e:m=2*(m/2)+0:=by omega
    have hI2:=hI.out
    rw[e,abh] at hI2
    have hI2:=Lib.hid hI2
    clear hlen hI e
    go_wp2
    exact⟨⟨m/2,_,_,rfl,by simp,rfl,by omega,trivial,Lib.hid (by have:=hI2.out;simp[ByteArray.data_append,Sc.rep] at this ⊢;exact this)⟩,by simp only[intOf];omega⟩
  ·obtain rfl:m=0:=by omega
   have hO:O=sJ R:=by
    have h:=hI.out
    rw[Sc.rep,List.append_nil] at h
    cases O with|mk d=>rw[← h];rfl
   have hO:=Lib.hid hO
   go_wp2
   go_ret
   have hO:=hO.out;subst hO;exact⟨rfl,rq.refl _⟩
end Go.Proofs.YtbembkamcdlhbaaGreatDoor.Sp
