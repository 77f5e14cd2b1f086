import Derived.Test.YtbembkamcdlhbaaGreatDoorZDSb
set_option linter.unusedSimpArgs false
set_option linter.unusedVariables false
set_option maxRecDepth 100000
namespace Go.Proofs.YtbembkamcdlhbaaGreatDoor
open Go.RowKit
def EN:Ct:=⟨[.agg [kU,kU]],[.sc .bool]⟩
abbrev aa:X:=.var kU 0
abbrev ae:X:=.lit 0
abbrev af:X:=.bin .eql .u64 aa ae
abbrev ag:X:=.var kU 1
abbrev ah:X:=.bin .eql .u64 ag ae
abbrev ai:X:=.lit 1
abbrev aj:X:=.var kI 2
abbrev ak:X:=.bin .lss .i64 aj ae
abbrev au:SV:=.bool ae
abbrev av:ru SV:=.leaf au
abbrev ax:X:=.lit 63
abbrev ay:X:=.var kU 3
abbrev az:X:=.var kU 2
abbrev aA:X:=.var kU 6
abbrev aB:SV:=.int .u64 aA
abbrev aC:X:=.var kU 4
abbrev aD:SV:=.int .u64 aC
abbrev aF:ru SV:=.leaf (.tup [(.agg [aB,aD]),(.bool (.bin .neq .u64 (.var .bit 7) ae))])
abbrev aG:SV:=.int .u64 az
abbrev aH:SV:=.int .u64 ay
abbrev aI:SV:=.int .u64 ag
abbrev aJ:SV:=.int .u64 aa
abbrev aK:SV:=.int .u64 ae
abbrev aL:X:=.lit 128
abbrev aM:X:=.min (.max aj ae) aL
abbrev aN:X:=.max (.lit (-128)) aM
abbrev aO:X:=.lit 6
abbrev aP:X:=.bin .shr .i64 aN aO
abbrev aQ:X:=.bin .sub .i64 ai aP
abbrev aR:X:=.conv .u64 (.bin .and .i64 aN ax)
abbrev aS:X:=.bin .sub .u64 ax aR
abbrev aT:X:=.max (.lit (-128)) (.min (.bin .sub .i64 ae aM) aL)
abbrev aU:X:=.bin .shr .i64 aT aO
abbrev aV:X:=.bin .sub .i64 ai aU
abbrev aW:X:=.lit 2
abbrev aX:X:=.conv .u64 (.bin .and .i64 aT ax)
abbrev aY:X:=.bin .sub .i64 aV ai
abbrev aZ:X:=.bin .sub .u64 ax aX
abbrev bf:X:=.bin .sub .i64 ae aU
abbrev bg:X:=.bin .sub .i64 bf ai
abbrev bi:X:=.var kI 4
abbrev bq:X:=.lit 256
abbrev bu:X:=.min (.max bi ae) bq
abbrev bv:X:=.max (.lit (-256)) bu
abbrev bz:X:=.bin .shr .i64 bv aO
abbrev bE:X:=.conv .u64 (.bin .and .i64 bv ax)
abbrev bG:X:=.bin .sub .u64 ax bE
abbrev bH:X:=.bin .sub .i64 ai bz
abbrev bI:X:=.bin .sub .i64 aW bz
abbrev bJ:X:=.bin .sub .i64 bI ai
abbrev bK:X:=.lit 3
abbrev bL:X:=.bin .sub .i64 bK bz
abbrev bP:X:=.bin .sub .i64 bL ai
abbrev bT:X:=.max (.lit (-256)) (.min (.bin .sub .i64 ae bu) bq)
abbrev bU:X:=.bin .shr .i64 bT aO
abbrev bV:X:=.bin .sub .i64 ae bU
abbrev cz:X:=.lit 4
abbrev cO:X:=.conv .u64 (.bin .and .i64 bT ax)
abbrev df:X:=.bin .sub .i64 bV ai
abbrev dh:X:=.bin .sub .u64 ax cO
abbrev di:X:=.bin .sub .i64 ai bU
abbrev dw:X:=.bin .sub .i64 di ai
abbrev dx:X:=.bin .sub .i64 aW bU
abbrev dz:X:=.bin .sub .i64 dx ai
abbrev dA:X:=.bin .sub .i64 bK bU
abbrev dC:X:=.bin .sub .i64 dA ai
abbrev dD:SV:=.int .i64 ae
abbrev dE:X:=.var kB 0
abbrev dF:X:=.bin .lss .i64 dE cz
abbrev dG:X:=.not dF
abbrev dH:X:=.var .bool 1
abbrev dI:X:=.var .bool 2
abbrev dJ:X:=.var kB 1
abbrev dK:X:=.var kB 6
abbrev dL:X:=.bin .eql .u8 dK ae
abbrev dM:X:=.lit (-1)
abbrev dO:X:=.bin .eql .u8 dJ bK
abbrev dP:X:=.bin .eql .u8 dK bK
abbrev dQ:List X:=[dE]
abbrev dR:X:=.var kI 3
abbrev dS:X:=.bin .sub .i64 aL aj
abbrev dU:X:=.var kU 5
abbrev dV:SV:=.int .u64 dU
abbrev dW:ru SV:=.leaf (.agg [dV,aB])
abbrev dX:X:=.var kU 7
abbrev dY:List X:=[aC,dU,aA,dX]
abbrev dZ:X:=.var kU 8
abbrev ek:X:=.var kU 9
abbrev eu:X:=.var kU 10
abbrev eB:X:=.var kU 11
abbrev eD:X:=.var kU 13
abbrev eF:X:=.var kU 12
abbrev eG:X:=.var kU 16
abbrev eH:X:=.var kU 17
abbrev eO:X:=.var kU 18
abbrev eP:X:=.var kU 19
abbrev eQ:X:=.var kU 15
abbrev eT:X:=.var kU 14
abbrev eU:X:=.var kU 21
abbrev eX:SV:=.int .u64 eU
abbrev eY:X:=.var kU 22
abbrev eZ:SV:=.int .u64 eY
abbrev fe:X:=.var kU 23
abbrev fq:SV:=.int .u64 fe
abbrev fu:X:=.var kU 24
abbrev fw:X:=.var kI 6
abbrev fA:SV:=.int .u64 dX
abbrev fB:SV:=.int .u64 dZ
abbrev fC:X:=.bin .sub .i64 bq fw
abbrev fF:SV:=.int .u64 eB
abbrev fG:SV:=.int .u64 eF
abbrev fH:List X:=[aa,ag,az,ay,bi]
abbrev fI:List X:=[aa,ag,az,ay]
abbrev fJ:X:=.bin .eql .i64 bi ae
abbrev fK:X:=.bin .sub .i64 bq bi
abbrev fM:SV:=.agg [dV,aB,fA,fB]
abbrev fO:X:=.var .bool 7
abbrev fQ:SV:=.int .u64 ek
abbrev fT:SV:=.bool ai
abbrev fV:ru SV:=.leaf (.tup [(.agg [fB,fQ]),fT])
abbrev fZ:X:=.var .bool 10
abbrev gm:X:=.bin .neq .u64 az az
abbrev gp:X:=.ite (.bin .neq .u64 aa aa) (.ite gm ae dM) (.ite gm ai (.ite (.bin .lss .u64 aa az) dM (.ite (.bin .gtr .u64 aa az) ai ae)))
abbrev gq:X:=.bin .neq .u64 ay ay
abbrev gy:X:=.ite (.bin .neq .u64 ag ag) (.ite gq ae dM) (.ite gq ai (.ite (.bin .lss .u64 ag ay) dM (.ite (.bin .gtr .u64 ag ay) ai ae)))
abbrev gz:X:=.var kI 5
abbrev gD:SV:=.agg [aK,aK]
abbrev gF:X:=.bin .sub .i64 gz fw
abbrev gH:X:=.bin .sub .i64 fw ai
abbrev gI:X:=.bin .sub .i64 gz ai
abbrev gJ:SV:=.int .u64 eP
abbrev gK:X:=.var kU 20
abbrev gL:SV:=.int .u64 gK
abbrev gM:SV:=.int .u64 eT
abbrev gN:SV:=.int .u64 eQ
abbrev gP:ru SV:=.call 74 [dZ,ek,gH] 10 2 (.call 59 [ay,aC,gH] 12 2 (.call 75 [eu,eB,eF,eD] 14 3 (.ite dH (.call 74 [ae,ai,gI] 17 2 (.call 75 [eT,eQ,eH,eO] 19 3 (.leaf (.agg [gJ,gL])))) (.leaf (.agg [gM,gN])))))
abbrev gQ:ru SV:=.call 59 [ae,ae,gF] 8 2 gP
abbrev gT:X:=.var .bool 9
abbrev gU:X:=.bin .lss .i64 bi ae
abbrev gV:SV:=.int .u8 ae
abbrev gW:X:=.bin .gtr .i64 bi (.lit 127)
abbrev gX:X:=.lit 255
abbrev gY:X:=.bin .sub .i64 gX bi
abbrev gZ:X:=.bin .and .i64 gY ax
abbrev ib:X:=.var .bool 5
abbrev ic:ru SV:=.leaf (.tup [dD,(.agg [aK,aK,aK,aK])])
abbrev ig:X:=.var kI 7
abbrev ik:SV:=.int .u64 eu
abbrev il:SV:=.int .u64 eD
abbrev iq:ru SV:=.call 298 [ay,aC,dZ,ek] 10 4 (.leaf (.tup [(.int .i64 (.bin .add .i64 (.bin .add .i64 aj ig) ai)),(.agg [ik,fF,fG,il])]))
abbrev iw:ru SV:=.ite (.bin .neq .u8 dK ai) (.ite (.bin .neq .u8 dK aW) ic iq) iq
abbrev iy:X:=.bin .mul .i64 aW aj
abbrev iA:ru SV:=.leaf (.agg [aH,aD])
abbrev iB:X:=.lit 18446744073709551615
abbrev iC:List X:=[dE,ag,az]
abbrev iD:X:=.bin .sub .i64 bi ai
abbrev iE:X:=.var .bool 6
abbrev iF:ru SV:=.leaf (.agg [fA,fB])
abbrev iG:ru SV:=.leaf (.tup [gD,au])
abbrev iH:X:=.var kB 13
abbrev iI:X:=.var .bool 14
abbrev iJ:SV:=.int .u64 eG
abbrev iK:SV:=.bool (.bin .neq .u8 iH ae)
abbrev iL:X:=.var .bool 3
abbrev iM:SV:=.bool iL
abbrev iN:SV:=.int .u8 ai
abbrev iO:SV:=.int .u8 aW
abbrev iP:SV:=.int .u8 bK
abbrev iQ:X:=.var kI 9
abbrev iR:ru SV:=.leaf (.agg [aK,aK,gV])
abbrev iT:X:=.not (.bin .leq .u8 dJ cz)
abbrev iU:ru SV:=.leaf (.agg [aD,dV,(.int .u8 (.lit 20))])
abbrev iV:List X:=[dE,ay,aC]
abbrev iW:X:=.var kB 3
abbrev iX:X:=.lit 9223372036854775808
abbrev iY:X:=.var .bool 4
abbrev iZ:SV:=.int .u8 iW
abbrev ja:X:=.var kI 15
abbrev jb:X:=.var .bool 20
abbrev jc:X:=.lit (-1099511627776)
abbrev jd:X:=.lit 1099511627776
abbrev je:X:=.var kI 14
abbrev jf:X:=.bin .sub .i64 (.max jc (.min bi jd)) je
abbrev jg:X:=.bin .add .i64 jf ai
abbrev jh:X:=.var .bool 21
abbrev ji:ru SV:=.call 265 [dE,dJ,iL] 22 3 (.leaf (.agg [eZ,fq,(.int .u8 (.var kB 24))]))
abbrev jk:X:=.bin .sub .i64 ai (.var kI 16)
abbrev jl:X:=.bin .lss .i64 jf jk
abbrev jm:List X:=[eu,eB,eF,eD,(.bin .sub .i64 jk jf)]
abbrev jo:X:=.var kU 25
abbrev jq:List X:=[eY,fe,fu,jo,ja,dJ,iL]
abbrev jr:X:=.var kU 26
abbrev jv:X:=.var kU 27
abbrev jw:X:=.var kU 29
abbrev jy:SV:=.int .u64 jw
abbrev jA:X:=.var kU 30
abbrev jB:SV:=.int .u64 jA
abbrev jC:ru SV:=.leaf (.agg [jy,jB,(.int .u8 (.lit 24))])
abbrev jD:ru SV:=.leaf (.agg [jy,jB,gV])
abbrev jE:ru SV:=.call 266 jm 22 4 (.call 262 jq 26 3 (.call 267 [dE,iL,ae,jr,jv] 29 2 (.ite (.var .bool 28) jC jD)))
abbrev jF:SV:=.int .u8 (.lit 16)
abbrev jG:X:=.var .bool 19
abbrev jH:ru SV:=.leaf (.agg [eZ,fq,gV])
abbrev jI:ru SV:=.ite jG (.leaf (.agg [eZ,fq,jF])) jH
abbrev jJ:List X:=[dE,dU,aA]
abbrev jK:X:=.var kB 8
abbrev jL:X:=.var .bool 12
abbrev jM:List X:=[fO,jK,iQ,eu,eB,jL,iH,je,eQ,eG]
abbrev jN:X:=.var .bool 17
abbrev jO:ru SV:=.leaf (.agg [eX,eZ,iN])
abbrev jP:X:=.var .bool 24
abbrev jQ:ru SV:=.leaf (.agg [eX,eZ,gV])
abbrev jR:ru SV:=.leaf (.agg [eZ,fq,iN])
abbrev jS:X:=.var .bool 25
abbrev jT:X:=.bin .eql .u8 jK bK
abbrev jU:X:=.bin .eql .u8 iH bK
abbrev jV:X:=.not (.beq fO jL)
abbrev jW:ru SV:=.leaf (.agg [gL,eX,gV])
abbrev jX:SV:=.int .u64 jr
abbrev jY:X:=.not (.bin .lss .i64 dJ cz)
abbrev jZ:ru SV:=.leaf (.tup [(.agg [aK,aK,gV]),au])
abbrev j4:List X:=[dE,az,ay]
abbrev j5:X:=.var kI 12
abbrev j6:X:=.var kB 2
abbrev kg:X:=.not (.bin .leq .u8 j6 cz)
abbrev ku:List X:=[dE,aC,dU]
abbrev kv:X:=.bin .eql .u8 (.var kB 11) bK
abbrev kw:ru SV:=.leaf (.agg [gN,iJ,gV])
abbrev ky:ru SV:=.leaf (.tup [(.agg [fA,fB,iN]),fT])
abbrev kz:ru SV:=.leaf (.tup [(.agg [fQ,ik,iN]),fT])
abbrev kC:X:=.var .bool 11
abbrev kF:ru SV:=.leaf (.tup [(.agg [ik,fF,iN]),fT])
abbrev kG:X:=.var .bool 13
abbrev kH:X:=.var .bool 8
abbrev kJ:ru SV:=.leaf (.tup [(.agg [fF,fG,iN]),fT])
abbrev kK:List X:=[dE,aA,dX]
abbrev kL:X:=.var .bool 15
abbrev kM:ru SV:=.leaf (.tup [(.agg [fG,il,iN]),fT])
abbrev kN:X:=.var .bool 16
abbrev kP:ru SV:=.leaf (.tup [(.agg [il,gM,iN]),fT])
abbrev kQ:List X:=[ag,az,ay,aC]
abbrev kR:List X:=[aA,dX,dZ,ek]
abbrev kS:X:=.max jc (.min gz jd)
abbrev kT:X:=.max jc (.min (.var kI 0) jd)
abbrev kV:ru SV:=.leaf (.int .i64 (.max kT kS))
abbrev kX:List X:=[ag,az,ay,aC,(.bin .sub .i64 (.max kT kS) kT)]
abbrev kY:List X:=[aA,dX,dZ,ek,(.bin .sub .i64 (.max kT kS) kS)]
abbrev kZ:ru SV:=.leaf (.int .i64 ai)
abbrev lg:ru SV:=.leaf (.int .i64 (.var kI 20))
abbrev lh:List X:=[(.var kI 0),ag,az,ay,aC,gz,aA,dX,dZ,ek]
abbrev ll:X:=.bin .add .i64 (.var kI 10) ai
abbrev lq:X:=.bin .lss .i64 (.var kI 10) ae
abbrev lu:X:=.var kI 11
abbrev lv:X:=.bin .add .i64 lu ae
abbrev lw:List X:=[aA,dX,dZ,ek,(.bin .sub .i64 lv kS)]
abbrev lG:List X:=[ag,az,ay,aC,(.bin .sub .i64 lv kT)]
abbrev lH:ru SV:=.call 236 [eF,eD,eT,eQ,eG,eH,eO,eP] 20 5 (.leaf (.tup [(.agg [(.int .i64 lv),gL,eX,eZ,fq]),(.bool lq)]))
abbrev lI:ru SV:=.leaf (.agg [(.int .u64 eH),(.int .u64 eO),(.int .u8 (.var kB 19))])
abbrev lJ:ru SV:=.ite jb lI (.call 127 [dE,fO] 21 2 jQ)
abbrev lL:List X:=[dE,ae,ay,aC,dU,aA]
abbrev lN:List X:=[eu,eB,ae,ae]
abbrev lQ:List X:=[eQ,eG,ae,ae]
abbrev lS:X:=.var kU 28
abbrev lU:List X:=[iQ,eU,eY,fe,fu,je,jo,jr,jv,lS]
abbrev lV:X:=.var kU 31
abbrev lW:X:=.var kU 32
abbrev lX:X:=.var kU 33
abbrev lY:X:=.var kU 36
abbrev lZ:SV:=.int .u64 lY
abbrev l5:SV:=.int .u64 (.var kU 37)
abbrev l6:ru SV:=.leaf (.agg [lZ,l5,(.int .u8 (.var kB 38))])
abbrev l7:X:=.var kU 35
abbrev l8:SV:=.int .u64 l7
abbrev l9:ru SV:=.call 204 [dE,dJ,dI,fO,(.var kI 29),jA,lV,lW,lX] 35 3 (.leaf (.agg [l8,lZ,(.int .u8 (.var kB 37))]))
abbrev ma:List X:=[iI,(.var kB 15),(.var kI 16),eH,eO,jG,(.var kB 20),(.var kI 21),eY,fe]
abbrev mf:X:=.bin .eql .u8 (.var kB 10) bK
abbrev mg:X:=.not (.beq iI jG)
abbrev mh:List X:=[dE,ae,ay,aC,dU,aA,dX,dZ]
abbrev mi:X:=.var .bool 33
abbrev mo:X:=.var kU 34
abbrev mq:SV:=.int .u64 mo
abbrev mr:SV:=.int .u64 (.var kU 38)
abbrev mD:X:=.var kU 39
abbrev mF:SV:=.int .u64 lV
abbrev mG:ru SV:=.leaf (.agg [jB,mF,(.int .u8 (.var kB 32))])
abbrev mH:ru SV:=.leaf (.agg [mq,l8,gV])
abbrev mI:ru SV:=.ite mi mG (.call 127 [dE,mg] 34 2 mH)
abbrev mJ:List X:=[dE,ai,ay,aC,dU,aA,dX,dZ]
abbrev mK:ru SV:=.ite (.not (.var .bool 29)) (.ite mf (.ite (.not (.beq mg gT)) (.call 3000126 mh 30 4 (.call 3000126 [dE,(.not mi),ay,aC,dU,aA,dX,dZ] 34 4 (.ite (.var .bool 37) (.leaf (.agg [mq,l8,(.int .u8 (.var kB 36))])) (.call 127 [dE,mg] 38 2 (.leaf (.agg [mr,(.int .u64 mD),gV])))))) (.call 3000126 mh 30 4 mI)) (.call 3000126 mh 30 4 mI)) (.call 3000126 mJ 30 4 mI)
abbrev mM:List X:=[eF,eD,ae,ae]
abbrev mO:ru SV:=.leaf (.agg [(.int .u64 (.var kU 54)),(.int .u64 (.var kU 55)),(.int .u8 (.var kB 56))])
abbrev mP:X:=.var kU 40
abbrev mQ:X:=.var kU 41
abbrev mR:SV:=.int .u64 (.var kU 44)
abbrev mU:SV:=.int .u64 (.var kU 45)
abbrev mV:ru SV:=.call 204 [dE,dJ,dI,mg,(.var kI 38),mD,mP,mQ,(.var kU 42)] 44 3 (.leaf (.agg [mR,mU,(.int .u8 (.var kB 46))]))
abbrev mW:ru SV:=.ite mi mG (.ite mf (.call 127 [dE,gT] 34 2 mH) (.call 225 mM 34 4 (.call 198 [(.var kI 24),jo,jr,jv,lS,lu,mo,l7,lY,(.var kU 37)] 38 5 (.ite (.not (.beq mg gT)) (.call 225 mM 43 4 (.call 200 [(.var kI 24),jo,jr,jv,lS,lu,(.var kU 43),(.var kU 44),(.var kU 45),(.var kU 46)] 47 6 (.call 202 [(.var kU 48),(.var kU 49),(.var kU 50),(.var kU 51)] 53 1 (.ite (.var .bool 53) (.call 204 [dE,dJ,dI,dO,(.var kI 47),(.var kU 48),(.var kU 49),(.var kU 50),(.var kU 51)] 54 3 mO) (.call 204 [dE,dJ,dI,(.not (.beq mg (.var .bool 52))),(.var kI 47),(.var kU 48),(.var kU 49),(.var kU 50),(.var kU 51)] 54 3 mO))))) (.call 202 [mD,mP,mQ,(.var kU 42)] 43 1 (.ite (.var .bool 43) mV mV))))))
abbrev mX:ru SV:=.leaf (.agg [ik,fF,(.int .u8 (.var kB 12))])
abbrev mY:ru SV:=.call 127 [dE,jV] 21 2 jQ
abbrev mZ:X:=.bin .eql .u8 jK ae
abbrev ng:ru SV:=.call 227 [dE,jV] 21 2 jQ
abbrev ni:List X:=[jo,jr,jv,lS,(.lit 100)]
abbrev nk:X:=.not (.var .bool 36)
abbrev nu:X:=.bin .add .i64 (.bin .sub .i64 iQ je) (.lit 27)
abbrev ny:ru SV:=.leaf (.agg [l5,mr,(.int .u8 (.var kB 39))])
abbrev nA:ru SV:=.ite mZ ng (.ite (.bin .eql .u8 iH ae) (.call 127 [dE,jV] 21 2 (.leaf (.agg [eX,eZ,iO]))) (.call 225 lN 21 4 (.call 224 [eU,eY,fe,fu,eQ,eG] 25 7 (.call 226 ni 32 4 (.call 79 [jw,jA] 36 1 (.ite nk (.call 204 [dE,dJ,dI,jV,nu,(.bin .or .u64 lW ai),lX,mo,l7] 37 3 ny) (.call 204 [dE,dJ,dI,jV,nu,lW,lX,mo,l7] 37 3 ny)))))))
abbrev nC:ru SV:=.call 26 iC 20 2 jW
abbrev nD:X:=.bin .sub .i64 j5 ai
abbrev nE:X:=.bin .lss .i64 ig nD
abbrev nG:X:=.bin .eql .i64 ig nD
abbrev nH:List X:=[dZ,ek,eD,eT]
abbrev nI:X:=.bin .add .i64 (.min ig j5) aL
abbrev nJ:X:=.not (.beq ib ae)
abbrev nK:X:=.bin .sub .i64 ig j5
abbrev nL:X:=.bin .gtr .i64 nK ae
abbrev nM:ru SV:=.ite (.bin .neq .u8 (.var kB 38) ae) iR (.leaf (.agg [lZ,l5,gV]))
abbrev nO:ru SV:=.call 230 [jv,lS] 31 4 (.call 202 [lV,lW,lX,mo] 35 1 (.call 204 [dE,cz,ae,(.not (.beq ib (.not (.var .bool 35)))),nI,lV,lW,lX,mo] 36 3 nM))
abbrev nP:ru SV:=.call 230 [fe,fu] 31 4 (.call 204 [dE,cz,ae,nJ,nI,lV,lW,lX,mo] 35 3 (.ite (.bin .neq .u8 (.var kB 37) ae) iR (.leaf (.agg [l8,lZ,gV]))))
abbrev nQ:ru SV:=.call 309 [eD,eT,fe,fu] 27 3 (.call 234 [fe,fu,jv,lS] 30 1 (.ite (.bin .gtr .i64 (.var kI 30) ae) nO (.ite (.bin .eql .i64 (.var kI 30) ae) (.ite jS nO nP) nP)))
abbrev nR:X:=.bin .gtr .i64 (.var kI 26) ae
abbrev nS:SV:=.int .u64 lX
abbrev nT:ru SV:=.ite (.bin .neq .u8 (.var kB 34) ae) iR (.leaf (.agg [(.int .u64 lW),nS,gV]))
abbrev nU:ru SV:=.call 230 [fe,fu] 27 4 (.call 202 [jv,lS,jw,jA] 31 1 (.call 204 [dE,cz,ae,(.not (.beq ib (.not (.var .bool 31)))),nI,jv,lS,jw,jA] 32 3 nT))
abbrev nV:X:=.bin .eql .i64 (.var kI 26) ae
abbrev nX:ru SV:=.call 204 [dE,cz,ae,nJ,nI,jv,lS,jw,jA] 31 3 (.ite (.bin .neq .u8 (.var kB 33) ae) iR (.leaf (.agg [mF,(.int .u64 lW),gV])))
abbrev nY:ru SV:=.call 230 [dZ,ek] 27 4 nX
abbrev nZ:ru SV:=.call 26 iC 21 2 jQ
abbrev og:X:=.bin .neq .u8 (.var kB 28) ae
abbrev oh:ru SV:=.leaf (.agg [jX,(.int .u64 jv),gV])
abbrev ol:ru SV:=.call 230 [lS,jw] 32 4 (.call 202 [lW,lX,mo,l7] 36 1 (.call 204 [dE,cz,ae,(.not (.beq ib nk)),nI,lW,lX,mo,l7] 37 3 (.ite (.bin .neq .u8 (.var kB 39) ae) iR (.leaf (.agg [l5,mr,gV])))))
abbrev om:ru SV:=.call 230 [fu,jo] 32 4 (.call 204 [dE,cz,ae,nJ,nI,lW,lX,mo,l7] 36 3 nM)
abbrev oo:ru SV:=.call 309 [eD,eT,fu,jo] 28 3 (.call 234 [fu,jo,lS,jw] 31 1 (.ite (.bin .gtr .i64 (.var kI 31) ae) ol (.ite (.bin .eql .i64 (.var kI 31) ae) (.ite (.var .bool 26) ol om) om)))
abbrev oq:X:=.bin .gtr .i64 (.var kI 27) ae
abbrev ou:ru SV:=.call 230 [fu,jo] 28 4 (.call 202 [lS,jw,jA,lV] 32 1 (.call 204 [dE,cz,ae,(.not (.beq ib (.not (.var .bool 32)))),nI,lS,jw,jA,lV] 33 3 (.ite (.bin .neq .u8 (.var kB 35) ae) iR (.leaf (.agg [nS,mq,gV])))))
abbrev ow:X:=.bin .eql .i64 (.var kI 27) ae
abbrev oz:ru SV:=.call 204 [dE,cz,ae,nJ,nI,lS,jw,jA,lV] 32 3 nT
abbrev oC:ru SV:=.call 230 [dZ,ek] 28 4 oz
abbrev oD:ru SV:=.ite kv nZ (.ite nE nZ (.ite nG (.call 230 [dZ,ek] 21 4 (.call 234 nH 25 1 (.ite (.bin .gtr .i64 (.var kI 25) ae) (.call 230 [eD,eT] 26 4 (.call 230 [eD,eT] 30 4 (.call 235 [jr,jv,lS,jw,jA,lV,lW,lX] 34 5 (.call 236 [mo,l7,lY,(.var kU 37),eU,eY,fe,fu] 39 5 (.call 202 [mD,mP,mQ,(.var kU 42)] 44 1 (.call 204 [dE,cz,ae,(.not (.beq ib (.not (.var .bool 44)))),nI,mD,mP,mQ,(.var kU 42)] 45 3 (.ite (.bin .neq .u8 (.var kB 47) ae) iR (.leaf (.agg [mU,(.int .u64 (.var kU 46)),gV]))))))))) (.call 204 [dE,cz,ae,nJ,nI,eU,eY,fe,fu] 26 3 (.ite og iR oh))))) (.call 309 nH 21 3 (.ite (.not (.var .bool 23)) (.ite nL (.call 310 [eU,eY,nK,eD,eT] 24 4 oo) (.call 309 [eD,eT,eU,eY] 24 3 (.call 234 [eU,eY,fu,jo] 27 1 (.ite oq ou (.ite ow ou (.call 230 [eU,eY] 28 4 oz)))))) (.ite nL (.call 310 [dZ,ek,nK,eD,eT] 24 4 oo) (.call 309 [eD,eT,dZ,ek] 24 3 (.call 234 [dZ,ek,fu,jo] 27 1 (.ite oq ou (.ite ow oC oC)))))))))
abbrev oF:ru SV:=.ite jb lI (.ite dL nZ oD)
abbrev oG:ru SV:=.leaf (.agg [gM,gN,gV])
abbrev oH:List X:=[dZ,ek,ae,ae]
abbrev oI:X:=.bin .sub .i64 ig gX
abbrev oJ:X:=.bin .add .i64 (.bin .quo .i64 (.bin .add .i64 oI ai) aW) (.lit 155)
abbrev oK:ru SV:=.leaf (.agg [nS,mq,(.int .u8 (.var kB 35))])
abbrev oL:X:=.bin .add .i64 (.bin .quo .i64 oI aW) (.lit 155)
abbrev oM:ru SV:=.leaf (.agg [jy,jB,(.int .u8 (.var kB 31))])
abbrev oN:ru SV:=.ite dP (.call 127 [dE,ib] 14 2 oG) (.call 225 oH 14 4 (.ite (.bin .neq .i64 (.bin .rem .i64 oI aW) ae) (.call 228 [eT,eQ,eG,eH,ai] 18 4 (.call 229 [eO,eP,gK,eU] 22 3 (.call 230 [eY,fe] 25 4 (.call 226 ni 29 4 (.ite (.not jP) (.call 204 [dE,dJ,dI,ae,oJ,(.bin .or .u64 jw ai),jA,lV,lW] 33 3 oK) (.call 204 [dE,dJ,dI,ae,oJ,jw,jA,lV,lW] 33 3 oK)))))) (.call 229 [eT,eQ,eG,eH] 18 3 (.call 230 [eO,eP] 21 4 (.call 226 [eU,eY,fe,fu,(.lit 100)] 25 4 (.ite (.not jb) (.call 204 [dE,dJ,dI,ae,oL,(.bin .or .u64 jo ai),jr,jv,lS] 29 3 oM) (.call 204 [dE,dJ,dI,ae,oL,jo,jr,jv,lS] 29 3 oM)))))))
abbrev oO:List X:=[dE,ae,ay,aC]
abbrev oP:ru SV:=.call 227 [dE,ib] 14 2 oG
abbrev oQ:X:=.conv .u64 (.conv .i64 (.conv .i32 aC))
abbrev oU:X:=.bin .eql .u64 (.bin .shr .u64 oQ ax) ai
abbrev oV:ru SV:=.leaf (.agg [dV,aB,(.int .u8 (.var kB 7))])
abbrev oZ:X:=.bin .eql .u8 dE ai
abbrev o9:X:=.bin .eql .u8 dE aW
abbrev pg:X:=.bin .eql .u64 (.bin .shr .u64 aC ax) ai
abbrev pq:ru SV:=.leaf (.bool (.bin .eql .u64 ag ag))
abbrev pu:X:=.bin .eql .u8 dE bK
abbrev pz:ru SV:=.leaf (.agg [aK,gV])
abbrev pE:X:=.bin .eql .i64 dJ ae
abbrev pF:X:=.bin .eql .i64 dJ ai
abbrev pG:X:=.bin .eql .i64 dJ aW
abbrev pI:X:=.ite pE (.lit 2147483648) (.ite pF ae (.ite pG iX ae))
abbrev pJ:ru SV:=.leaf (.agg [(.int .u64 (.bin .sub .u64 ae pI)),iN])
abbrev pK:X:=.bin .gtr .i64 ig (.lit 64)
abbrev pM:X:=.bin .lss .i64 ig ae
abbrev pO:List X:=[eu,eB,eF,eD,(.bin .sub .i64 (.bin .sub .i64 ae ig) ai)]
abbrev pQ:List X:=[eT,eQ,eG,eH,ae,j6,ib]
abbrev pR:X:=.bin .gtr .i64 (.var kI 21) ae
abbrev pU:SV:=.int .u64 (.bin .sub .u64 ae eP)
abbrev pV:List X:=[eu,eB,eF,eD,(.bin .add .i64 ig ai),j6,ib]
abbrev pW:X:=.bin .gtr .i64 (.var kI 17) ae
abbrev pX:SV:=.int .u64 (.bin .sub .u64 ae eQ)
abbrev pY:X:=.ite pE (.lit 2147483647) (.ite pF (.lit 4294967295) (.ite pG (.lit 9223372036854775807) iB))
abbrev qa:ru SV:=.leaf (.agg [(.int .u64 pY),iN])
abbrev qc:ru SV:=.ite dI (.leaf (.agg [aK,aK,jF])) iR
abbrev qd:ru SV:=.leaf (.agg [jB,mF,gV])
abbrev qf:ru SV:=.leaf (.tup [gV,gV])
abbrev qg:ru SV:=.leaf (.tup [iP,iN])
abbrev qh:ru SV:=.ite fO qg (.leaf (.tup [iP,gV]))
abbrev qi:ru SV:=.ite kH qg (.leaf (.tup [iP,gV]))
abbrev qj:ru SV:=.ite fO qf (.leaf (.tup [iO,gV]))
abbrev ql:ru SV:=.leaf (.tup [iN,gV])
abbrev qm:ru SV:=.ite jV qj (.ite fO (.leaf (.tup [iO,gV])) qf)
abbrev qo:ru SV:=.ite jV qj (.ite fO (.leaf (.tup [(.int .u8 (.bin .add .u8 ai (.conv .u8 (.bin .sub .i64 ae (.var kI 25))))),gV])) (.leaf (.tup [(.int .u8 (.bin .add .u8 ai (.conv .u8 (.var kI 25)))),gV])))
abbrev qp:ru SV:=.call 125 iC 7 5 (.call 125 iV 12 5 (.ite jT (.ite jU (.ite jV qj (.ite fO ql ql)) (.ite jV qj qj)) (.ite jU (.ite mZ qm qm) (.call 225 lN 17 4 (.call 225 lQ 21 4 (.call 258 [iQ,eH,eO,eP,gK,je,eU,eY,fe,fu] 25 1 (.ite mZ (.ite (.bin .eql .u8 iH ae) ql qo) qo)))))))
abbrev qw:X:=.not (.bin .leq .u8 iW cz)
abbrev qx:X:=.bin .gtr .u8 (.var kB 4) ai
abbrev qy:X:=.not (.bin .eql .u8 j6 ae)
abbrev qz:List X:=[dJ,dU,aA]
abbrev qA:List X:=[dJ,dX,dZ]
abbrev qB:X:=.not (.and (.bin .eql .u64 ek ae) (.and (.bin .eql .u64 eu ae) ai))
abbrev qC:ru SV:=.ite jY kZ (.ite qw kZ (.ite qx kZ (.ite qy kZ (.call 115 qz 11 1 (.ite kC (.call 115 qA 12 1 (.ite jL (.ite qB kZ (.leaf dD)) kZ)) kZ)))))
abbrev qD:X:=.bin .eql .u8 dE (.lit 5)
abbrev qE:X:=.and (.bin .eql .u64 dX ae) (.and (.bin .eql .u64 dZ ae) ai)
abbrev qF:ru SV:=.ite kC (.ite qE (.ite qB kZ (.leaf dD)) kZ) kZ
abbrev qG:ru SV:=.ite jY kZ (.ite qw kZ (.ite qx kZ (.ite qy kZ (.call 115 qz 11 1 qF))))
abbrev qH:X:=.bin .eql .u8 dE (.lit 7)
abbrev qI:X:=.bin .eql .u8 dE (.lit 8)
abbrev qJ:X:=.bin .eql .u8 dE (.lit 9)
abbrev qK:X:=.bin .eql .u8 dE (.lit 10)
abbrev qL:X:=.not (.bin .lss .i64 j6 cz)
abbrev qM:ru SV:=.ite jY kZ (.ite qw kZ (.ite qx kZ (.ite qL kZ (.call 115 qz 11 1 qF))))
abbrev qN:X:=.bin .eql .u8 dE (.lit 11)
abbrev qO:X:=.bin .eql .u8 dE (.lit 12)
abbrev qP:X:=.bin .eql .u64 dU ae
abbrev qQ:X:=.bin .eql .u8 dE (.lit 13)
abbrev qR:X:=.bin .eql .u8 dE (.lit 14)
abbrev qU:ru SV:=.leaf (.agg [(.int .i64 ai),aK,aK,gV])
abbrev qV:X:=.bin .eql .u8 (.var kB 4) ai
abbrev qW:List X:=[dJ,iW,qV,dU,aA,dX,dZ]
abbrev qX:ru SV:=.leaf (.agg [dD,il,gM,(.int .u8 (.var kB 15))])
abbrev qY:SV:=.int .u8 (.var kB 14)
abbrev qZ:ru SV:=.leaf (.agg [dD,fG,il,qY])
abbrev q9:List X:=[dJ,dU,aA,dX,dZ]
abbrev rf:ru SV:=.leaf (.agg [dD,aK,(.int .u64 iH),qY])
def Rp:ru SV :=
 (.leaf (.bool (.and af (.and ah ai))))
theorem aeL:sw (ctx E0) 3000 79 (rV EN.a (rU 0 (rE EN.a))) (rE EN.a).length=Rp:=by kernel_rfl
def Nj:List Int→List Int:=rR (sG E0) EN Rp
theorem V6:rQ Tryz.prog gG ⟨79,EN,Nj⟩:=sQ (sS xy) 3000 aeL (by kernel_rfl)
def Hd:Ct:=⟨[.agg [kU,kU],.sc kI],[.sc .bool]⟩
def V7:ru SV :=
 (.ite ak av (.ite (.bin .gtr .i64 aj (.lit 127)) av (.ite (.bin .gtr .i64 aj ax) (.leaf (.bool (.bin .eql .u64 (.bin .and .u64 (.bin .shr .u64 aa (.bin .sub .i64 aj (.lit 64))) ai) ai))) (.leaf (.bool (.bin .eql .u64 (.bin .and .u64 (.bin .shr .u64 ag aj) ai) ai))))))
theorem aeM:sw (ctx E0) 3000 73 (rV Hd.a (rU 0 (rE Hd.a))) (rE Hd.a).length=V7:=by kernel_rfl
def V8:List Int→List Int:=rR (sG E0) Hd V7
theorem aeN:rQ Tryz.prog gG ⟨73,Hd,V8⟩:=sQ (sS xy) 3000 aeM (by kernel_rfl)
def He:Ct:=⟨[.agg [kU,kU],.agg [kU,kU]],[.agg [kU,kU],.sc .bool]⟩
def Rq:ru SV :=
 (.call 124 [ag,ay,ae] 4 2 (.call 124 [aa,az,(.var .bit 5)] 6 2 aF))
theorem aeO:sw (ctx E0) 3000 75 (rV He.a (rU 0 (rE He.a))) (rE He.a).length=Rq:=by kernel_rfl
def Hf:List Int→List Int:=rR (sG E0) He Rq
theorem aeP:rQ Tryz.prog gG ⟨75,He,Hf⟩:=sQ (sS xy) 3000 aeO (by kernel_rfl)
def Hg:Ct:=⟨[.agg [kU,kU],.agg [kU,kU]],[.agg [kU,kU],.sc .bool]⟩
def Rs:ru SV :=
 (.call 308 [ag,ay,ae] 4 2 (.call 308 [aa,az,(.var .bit 5)] 6 2 aF))
theorem aeQ:sw (ctx E0) 3000 309 (rV Hg.a (rU 0 (rE Hg.a))) (rE Hg.a).length=Rs:=by kernel_rfl
def Hl:List Int→List Int:=rR (sG E0) Hg Rs
theorem aeR:rQ Tryz.prog gG ⟨309,Hg,Hl⟩:=sQ (sS xy) 3000 aeQ (by kernel_rfl)
def Hm:Ct:=⟨[.sc kU,.sc kU],[.agg [kU,kU]]⟩
def Rt:ru SV :=
 (.call 367 [aa,ag] 2 2 (.leaf (.agg [aG,aH])))
theorem aeS:sw (ctx E0) 3000 347 (rV Hm.a (rU 0 (rE Hm.a))) (rE Hm.a).length=Rt:=by kernel_rfl
def Ho:List Int→List Int:=rR (sG E0) Hm Rt
theorem aeT:rQ Tryz.prog gG ⟨347,Hm,Ho⟩:=sQ (sS xy) 3000 aeS (by kernel_rfl)
def Hq:Ct:=⟨[.agg [kU,kU],.agg [kU,kU]],[.agg [kU,kU,kU,kU]]⟩
def Ru:ru SV :=
 (.leaf (.agg [aH,aG,aI,aJ]))
theorem aeU:sw (ctx E0) 3000 225 (rV Hq.a (rU 0 (rE Hq.a))) (rE Hq.a).length=Ru:=by kernel_rfl
def Hr:List Int→List Int:=rR (sG E0) Hq Ru
theorem aeV:rQ Tryz.prog gG ⟨225,Hq,Hr⟩:=sQ (sS xy) 3000 aeU (by kernel_rfl)
def Hu:Ct:=⟨[.agg [kU,kU]],[.agg [kU,kU,kU,kU]]⟩
def V9:ru SV :=
 (.leaf (.agg [aI,aJ,aK,aK]))
theorem aeW:sw (ctx E0) 3000 230 (rV Hu.a (rU 0 (rE Hu.a))) (rE Hu.a).length=V9:=by kernel_rfl
def Wd:List Int→List Int:=rR (sG E0) Hu V9
theorem aeX:rQ Tryz.prog gG ⟨230,Hu,Wd⟩:=sQ (sS xy) 3000 aeW (by kernel_rfl)
def Hw:Ct:=⟨[.agg [kU,kU,kU,kU]],[.agg [kU,kU]]⟩
def Rv:ru SV :=
 (.leaf (.agg [aH,aG]))
theorem aeY:sw (ctx E0) 3000 255 (rV Hw.a (rU 0 (rE Hw.a))) (rE Hw.a).length=Rv:=by kernel_rfl
def Du:List Int→List Int:=rR (sG E0) Hw Rv
theorem aeZ:rQ Tryz.prog gG ⟨255,Hw,Du⟩:=sQ (sS xy) 3000 aeY (by kernel_rfl)
def Hy:Ct:=⟨[.agg [kU,kU,kU,kU]],[.agg [kU,kU]]⟩
def Rw:ru SV :=
 (.leaf (.agg [aI,aJ]))
theorem ae0:sw (ctx E0) 3000 321 (rV Hy.a (rU 0 (rE Hy.a))) (rE Hy.a).length=Rw:=by kernel_rfl
def Dv:List Int→List Int:=rR (sG E0) Hy Rw
theorem ae1:rQ Tryz.prog gG ⟨321,Hy,Dv⟩:=sQ (sS xy) 3000 ae0 (by kernel_rfl)
def Hz:Ct:=⟨[.agg [kU,kU,kU,kU]],[.sc .bool]⟩
def We:ru SV :=
 (.leaf (.bool (.and af (.and ah (.and (.bin .eql .u64 az ae) (.and (.bin .eql .u64 ay ae) ai))))))
theorem ae2:sw (ctx E0) 3000 202 (rV Hz.a (rU 0 (rE Hz.a))) (rE Hz.a).length=We:=by kernel_rfl
def Wh:List Int→List Int:=rR (sG E0) Hz We
theorem ae3:rQ Tryz.prog gG ⟨202,Hz,Wh⟩:=sQ (sS xy) 3000 ae2 (by kernel_rfl)
def EO:Ct:=⟨[.agg [kU,kU],.sc kI],[.agg [kU,kU]]⟩
def Rx:ru SV :=
 (.leaf (.agg [(.int .u64 (.bin .or .u64 (.bin .shl .u64 (.ite (.bin .lss .i64 aQ ae) ae (.ite (.bin .eql .i64 aQ ae) ag aa)) aR) (.bin .shr .u64 (.bin .shr .u64 (.ite (.bin .lss .i64 (.bin .sub .i64 aQ ai) ae) ae ag) ai) aS))),(.int .u64 (.bin .or .u64 (.bin .shl .u64 (.ite (.bin .lss .i64 (.bin .sub .i64 ae aP) ae) ae ag) aR) (.bin .shr .u64 ae aS)))]))
theorem ae4:sw (ctx E0) 3000 74 (rV EO.a (rU 0 (rE EO.a))) (rE EO.a).length=Rx:=by kernel_rfl
def Nk:List Int→List Int:=rR (sG E0) EO Rx
theorem Wi:rQ Tryz.prog gG ⟨74,EO,Nk⟩:=sQ (sS xy) 3000 ae4 (by kernel_rfl)
def HV:Ct:=⟨[.agg [kU,kU],.sc kI],[.agg [kU,kU]]⟩
def Wj:ru SV :=
 (.leaf (.agg [(.int .u64 (.bin .or .u64 (.bin .shl .u64 (.ite (.bin .geq .i64 aV aW) ae aa) aX) (.bin .shr .u64 (.bin .shr .u64 (.ite (.bin .geq .i64 aY aW) ae (.ite (.bin .eql .i64 aY ae) ag aa)) ai) aZ))),(.int .u64 (.bin .or .u64 (.bin .shl .u64 (.ite (.bin .geq .i64 bf aW) ae (.ite (.bin .eql .i64 bf ae) ag aa)) aX) (.bin .shr .u64 (.bin .shr .u64 (.ite (.bin .lss .i64 bg ae) ae (.ite (.bin .eql .i64 bg ae) ag aa)) ai) aZ)))]))
theorem ae5:sw (ctx E0) 3000 72 (rV HV.a (rU 0 (rE HV.a))) (rE HV.a).length=Wj:=by kernel_rfl
def Wl:List Int→List Int:=rR (sG E0) HV Wj
theorem ae6:rQ Tryz.prog gG ⟨72,HV,Wl⟩:=sQ (sS xy) 3000 ae5 (by kernel_rfl)
def HY:Ct:=⟨[.agg [kU,kU,kU,kU],.sc kI],[.agg [kU,kU,kU,kU]]⟩
def Wm:ru SV :=
 (.leaf (.agg [(.int .u64 (.bin .or .u64 (.bin .shl .u64 (.ite (.bin .lss .i64 (.bin .sub .i64 ae bz) ae) ae aa) bE) (.bin .shr .u64 ae bG))),(.int .u64 (.bin .or .u64 (.bin .shl .u64 (.ite (.bin .lss .i64 bH ae) ae (.ite (.bin .eql .i64 bH ae) aa ag)) bE) (.bin .shr .u64 (.bin .shr .u64 (.ite (.bin .lss .i64 (.bin .sub .i64 bH ai) ae) ae aa) ai) bG))),(.int .u64 (.bin .or .u64 (.bin .shl .u64 (.ite (.bin .lss .i64 bI ae) ae (.ite (.bin .eql .i64 bI ae) aa (.ite (.bin .eql .i64 bI ai) ag az))) bE) (.bin .shr .u64 (.bin .shr .u64 (.ite (.bin .lss .i64 bJ ae) ae (.ite (.bin .eql .i64 bJ ae) aa ag)) ai) bG))),(.int .u64 (.bin .or .u64 (.bin .shl .u64 (.ite (.bin .lss .i64 bL ae) ae (.ite (.bin .eql .i64 bL ae) aa (.ite (.bin .eql .i64 bL ai) ag (.ite (.bin .eql .i64 bL aW) az ay)))) bE) (.bin .shr .u64 (.bin .shr .u64 (.ite (.bin .lss .i64 bP ae) ae (.ite (.bin .eql .i64 bP ae) aa (.ite (.bin .eql .i64 bP ai) ag az))) ai) bG)))]))
theorem ae7:sw (ctx E0) 3000 226 (rV HY.a (rU 0 (rE HY.a))) (rE HY.a).length=Wm:=by kernel_rfl
def Wn:List Int→List Int:=rR (sG E0) HY Wm
theorem ae8:rQ Tryz.prog gG ⟨226,HY,Wn⟩:=sQ (sS xy) 3000 ae7 (by kernel_rfl)
def HZ:Ct:=⟨[.agg [kU,kU,kU,kU],.sc kI],[.agg [kU,kU,kU,kU]]⟩
def Wo:ru SV :=
 (.leaf (.agg [(.int .u64 (.bin .or .u64 (.bin .shl .u64 (.ite (.bin .geq .i64 bV cz) ae (.ite (.bin .eql .i64 bV ae) aa (.ite (.bin .eql .i64 bV ai) ag (.ite (.bin .eql .i64 bV aW) az ay)))) cO) (.bin .shr .u64 (.bin .shr .u64 (.ite (.bin .lss .i64 df ae) ae (.ite (.bin .eql .i64 df ae) aa (.ite (.bin .eql .i64 df ai) ag (.ite (.bin .eql .i64 df aW) az ay)))) ai) dh))),(.int .u64 (.bin .or .u64 (.bin .shl .u64 (.ite (.bin .geq .i64 di cz) ae (.ite (.bin .eql .i64 di ai) ag (.ite (.bin .eql .i64 di aW) az ay))) cO) (.bin .shr .u64 (.bin .shr .u64 (.ite (.bin .geq .i64 dw cz) ae (.ite (.bin .eql .i64 dw ae) aa (.ite (.bin .eql .i64 dw ai) ag (.ite (.bin .eql .i64 dw aW) az ay)))) ai) dh))),(.int .u64 (.bin .or .u64 (.bin .shl .u64 (.ite (.bin .geq .i64 dx cz) ae (.ite (.bin .eql .i64 dx aW) az ay)) cO) (.bin .shr .u64 (.bin .shr .u64 (.ite (.bin .geq .i64 dz cz) ae (.ite (.bin .eql .i64 dz ai) ag (.ite (.bin .eql .i64 dz aW) az ay))) ai) dh))),(.int .u64 (.bin .or .u64 (.bin .shl .u64 (.ite (.bin .geq .i64 dA cz) ae ay) cO) (.bin .shr .u64 (.bin .shr .u64 (.ite (.bin .geq .i64 dC cz) ae (.ite (.bin .eql .i64 dC aW) az ay)) ai) dh)))]))
theorem ae9:sw (ctx E0) 3000 228 (rV HZ.a (rU 0 (rE HZ.a))) (rE HZ.a).length=Wo:=by kernel_rfl
def Wp:List Int→List Int:=rR (sG E0) HZ Wo
theorem afa:rQ Tryz.prog gG ⟨228,HZ,Wp⟩:=sQ (sS xy) 3000 ae9 (by kernel_rfl)
def H5:Ct:=⟨[.agg [kU,kU,kU,kU]],[.sc kI]⟩
def Wq:ru SV :=
 (.ite (.bin .neq .u64 ay ae) (.call 342 [ay] 4 1 (.leaf (.int .i64 (.bin .add .i64 (.lit 192) bi)))) (.ite (.bin .neq .u64 az ae) (.call 342 [az] 4 1 (.leaf (.int .i64 (.bin .add .i64 aL bi)))) (.ite (.bin .neq .u64 ag ae) (.call 342 [ag] 4 1 (.leaf (.int .i64 (.bin .add .i64 (.lit 64) bi)))) (.ite (.bin .neq .u64 aa ae) (.call 342 [aa] 4 1 (.leaf (.int .i64 (.bin .add .i64 ae bi)))) (.leaf dD)))))
theorem afb:sw (ctx E0) 3000 254 (rV H5.a (rU 0 (rE H5.a))) (rE H5.a).length=Wq:=by kernel_rfl
def Ws:List Int→List Int:=rR (sG E0) H5 Wq
theorem afc:rQ Tryz.prog gG ⟨254,H5,Ws⟩:=sQ (sS xy) 3000 afb (by kernel_rfl)
def H6:Ct:=⟨[.sc kB],[.agg [kI,kI,kI]]⟩
def Ry:ru SV :=
 (.ite dG (.leaf (.agg [dD,dD,dD])) (.ite (.bin .eql .i64 dE ae) (.leaf (.agg [(.int .i64 (.lit 16)),(.int .i64 (.lit 11)),(.int .i64 (.lit 15))])) (.ite (.bin .eql .i64 dE ai) (.leaf (.agg [(.int .i64 (.lit 32)),(.int .i64 (.lit 24)),(.int .i64 (.lit 127))])) (.ite (.bin .eql .i64 dE aW) (.leaf (.agg [(.int .i64 (.lit 64)),(.int .i64 (.lit 53)),(.int .i64 (.lit 1023))])) (.leaf (.agg [(.int .i64 aL),(.int .i64 (.lit 113)),(.int .i64 (.lit 16383))]))))))
theorem afd:sw (ctx E0) 3000 71 (rV H6.a (rU 0 (rE H6.a))) (rE H6.a).length=Ry:=by kernel_rfl
def H7:List Int→List Int:=rR (sG E0) H6 Ry
theorem afe:rQ Tryz.prog gG ⟨71,H6,H7⟩:=sQ (sS xy) 3000 afd (by kernel_rfl)
def H8:Ct:=⟨[.sc kB,.sc .bool],[.sc .bool]⟩
def Wt:ru SV :=
 (.call 323 [dE,dH,ai,bK] 2 1 (.leaf (.bool dI)))
theorem aff:sw (ctx E0) 3000 327 (rV H8.a (rU 0 (rE H8.a))) (rE H8.a).length=Wt:=by kernel_rfl
def Wu:List Int→List Int:=rR (sG E0) H8 Wt
theorem afg:rQ Tryz.prog gG ⟨327,H8,Wu⟩:=sQ (sS xy) 3000 aff (by kernel_rfl)
def H9:Ct:=⟨[.agg [.bool,kB,kI,kU,kU],.agg [.bool,kB,kI,kU,kU]],[.sc .bool]⟩
def Wv:ru SV :=
 (.ite (.bin .geq .i64 (.ite (.bin .eql .u8 dJ ae) ae (.ite dL ai dM)) ae) (.leaf (.bool (.bin .geq .i64 (.ite dO ae (.ite dP ai dM)) ae))) av)
theorem afh:sw (ctx E0) 3000 220 (rV H9.a (rU 0 (rE H9.a))) (rE H9.a).length=Wv:=by kernel_rfl
def Ww:List Int→List Int:=rR (sG E0) H9 Wv
theorem afi:rQ Tryz.prog gG ⟨220,H9,Ww⟩:=sQ (sS xy) 3000 afh (by kernel_rfl)
def E1:List sH:=⟨79,EN,Nj⟩::⟨73,Hd,V8⟩::⟨75,He,Hf⟩::⟨309,Hg,Hl⟩::⟨347,Hm,Ho⟩::⟨225,Hq,Hr⟩::⟨230,Hu,Wd⟩::⟨255,Hw,Du⟩::⟨321,Hy,Dv⟩::⟨202,Hz,Wh⟩::⟨74,EO,Nk⟩::⟨72,HV,Wl⟩::⟨226,HY,Wn⟩::⟨228,HZ,Wp⟩::⟨254,H5,Ws⟩::⟨71,H6,H7⟩::⟨327,H8,Wu⟩::⟨220,H9,Ww⟩::E0
theorem Aq:∀ e∈E1,rQ Tryz.prog gG e:=List.forall_mem_cons.2 ⟨V6,List.forall_mem_cons.2 ⟨aeN,List.forall_mem_cons.2 ⟨aeP,List.forall_mem_cons.2 ⟨aeR,List.forall_mem_cons.2 ⟨aeT,List.forall_mem_cons.2 ⟨aeV,List.forall_mem_cons.2 ⟨aeX,List.forall_mem_cons.2 ⟨aeZ,List.forall_mem_cons.2 ⟨ae1,List.forall_mem_cons.2 ⟨ae3,List.forall_mem_cons.2 ⟨Wi,List.forall_mem_cons.2 ⟨ae6,List.forall_mem_cons.2 ⟨ae8,List.forall_mem_cons.2 ⟨afa,List.forall_mem_cons.2 ⟨afc,List.forall_mem_cons.2 ⟨afe,List.forall_mem_cons.2 ⟨afg,List.forall_mem_cons.2 ⟨afi,xy⟩⟩⟩⟩⟩⟩⟩⟩⟩⟩⟩⟩⟩⟩⟩⟩⟩⟩
theorem Wx:sG E0 124=EK:=Bp (e:=⟨124,_,EK⟩) rfl
theorem Wy:sG E0 308=EL:=Bp (e:=⟨308,_,EL⟩) rfl
theorem afj:sG E0 367=G9:=Bp (e:=⟨367,_,G9⟩) rfl
open Go.RowKit
def Ia:Ct:=⟨[.sc kB],[.sc kI]⟩
def Wz:ru SV :=
 (.call 71 dQ 1 3 (.leaf (.int .i64 dR)))
theorem afk:sw (ctx E1) 3000 80 (rV Ia.a (rU 0 (rE Ia.a))) (rE Ia.a).length=Wz:=by kernel_rfl
def WA:List Int→List Int:=rR (sG E1) Ia Wz
theorem afl:rQ Tryz.prog gG ⟨80,Ia,WA⟩:=sQ (sS Aq) 3000 afk (by kernel_rfl)
def Ib:Ct:=⟨[.sc kB],[.sc kI]⟩
def WB:ru SV :=
 (.call 71 dQ 1 3 (.leaf (.int .i64 aj)))
theorem afm:sw (ctx E1) 3000 81 (rV Ib.a (rU 0 (rE Ib.a))) (rE Ib.a).length=WB:=by kernel_rfl
def WC:List Int→List Int:=rR (sG E1) Ib WB
theorem afn:rQ Tryz.prog gG ⟨81,Ib,WC⟩:=sQ (sS Aq) 3000 afm (by kernel_rfl)
def Dw:Ct:=⟨[.sc kB],[.sc kI]⟩
def Rz:ru SV :=
 (.call 71 dQ 1 3 (.leaf (.int .i64 (.var kI 1))))
theorem afo:sw (ctx E1) 3000 60 (rV Dw.a (rU 0 (rE Dw.a))) (rE Dw.a).length=Rz:=by kernel_rfl
def KE:List Int→List Int:=rR (sG E1) Dw Rz
theorem WE:rQ Tryz.prog gG ⟨60,Dw,KE⟩:=sQ (sS Aq) 3000 afo (by kernel_rfl)
def Ic:Ct:=⟨[.agg [kU,kU],.sc kI],[.agg [kU,kU]]⟩
def WF:ru SV :=
 (.call 74 [aa,ag,dS] 3 2 (.call 72 [ay,aC,dS] 5 2 dW))
theorem afp:sw (ctx E1) 3000 59 (rV Ic.a (rU 0 (rE Ic.a))) (rE Ic.a).length=WF:=by kernel_rfl
def WG:List Int→List Int:=rR (sG E1) Ic WF
theorem afq:rQ Tryz.prog gG ⟨59,Ic,WG⟩:=sQ (sS Aq) 3000 afp (by kernel_rfl)
def EP:Ct:=⟨[.agg [kU,kU],.agg [kU,kU]],[.agg [kU,kU,kU,kU]]⟩
def RA:ru SV :=
 (.call 347 [aa,az] 4 2 (.call 347 [ag,ay] 6 2 (.call 225 dY 8 4 (.call 347 [aa,ay] 12 2 (.call 347 [ag,az] 14 2 (.call 235 [dZ,ek,eu,eB,ae,eD,eF,ae] 16 5 (.call 235 [eG,eH,eO,eP,ae,eQ,eT,ae] 21 5 (.leaf (.agg [eX,eZ,fq,(.int .u64 fu)])))))))))
theorem afr:sw (ctx E1) 3000 298 (rV EP.a (rU 0 (rE EP.a))) (rE EP.a).length=RA:=by kernel_rfl
def Nl:List Int→List Int:=rR (sG E1) EP RA
theorem WH:rQ Tryz.prog gG ⟨298,EP,Nl⟩:=sQ (sS Aq) 3000 afr (by kernel_rfl)
def Ie:Ct:=⟨[.agg [kU,kU]],[.agg [kU,kU],.sc kI]⟩
def WI:ru SV :=
 (.call 225 [aa,ag,ae,ae] 2 4 (.call 254 [az,ay,aC,dU] 6 1 (.ite (.bin .eql .i64 fw ae) (.call 255 [az,ay,aC,dU] 7 2 (.leaf (.tup [(.agg [fA,fB]),dD]))) (.call 226 [az,ay,aC,dU,fC] 7 4 (.call 255 [dX,dZ,ek,eu] 11 2 (.leaf (.tup [(.agg [fF,fG]),(.int .i64 fC)])))))))
theorem afs:sw (ctx E1) 3000 191 (rV Ie.a (rU 0 (rE Ie.a))) (rE Ie.a).length=WI:=by kernel_rfl
def WJ:List Int→List Int:=rR (sG E1) Ie WI
theorem aft:rQ Tryz.prog gG ⟨191,Ie,WJ⟩:=sQ (sS Aq) 3000 afs (by kernel_rfl)
def Ig:Ct:=⟨[.agg [kU,kU,kU,kU],.sc kI],[.sc .bool]⟩
def WK:ru SV :=
 (.call 228 fH 5 4 (.call 226 [dU,aA,dX,dZ,bi] 9 4 (.leaf (.bool (.not (.and (.bin .eql .u64 ek aa) (.and (.bin .eql .u64 eu ag) (.and (.bin .eql .u64 eB az) (.and (.bin .eql .u64 eF ay) ai)))))))))
theorem afu:sw (ctx E1) 3000 319 (rV Ig.a (rU 0 (rE Ig.a))) (rE Ig.a).length=WK:=by kernel_rfl
def WL:List Int→List Int:=rR (sG E1) Ig WK
theorem afv:rQ Tryz.prog gG ⟨319,Ig,WL⟩:=sQ (sS Aq) 3000 afu (by kernel_rfl)
def Ih:Ct:=⟨[.agg [kU,kU,kU,kU]],[.agg [kU,kU,kU,kU],.sc kI]⟩
def WM:ru SV :=
 (.call 254 fI 4 1 (.ite fJ (.leaf (.tup [(.agg [aJ,aI,aG,aH]),dD])) (.call 226 [aa,ag,az,ay,fK] 5 4 (.leaf (.tup [fM,(.int .i64 fK)])))))
theorem afw:sw (ctx E1) 3000 320 (rV Ih.a (rU 0 (rE Ih.a))) (rE Ih.a).length=WM:=by kernel_rfl
def WN:List Int→List Int:=rR (sG E1) Ih WM
theorem afx:rQ Tryz.prog gG ⟨320,Ih,WN⟩:=sQ (sS Aq) 3000 afw (by kernel_rfl)
def Dx:Ct:=⟨[.agg [kU,kU],.sc kU,.agg [kU,kU]],[.agg [kU,kU],.sc .bool]⟩
def RB:ru SV :=
 (.call 75 [aa,ag,aa,ag] 5 3 (.call 309 [dU,(.bin .or .u64 aA az),ay,aC] 8 3 (.ite fO fV (.ite (.not fZ) fV (.leaf (.tup [(.agg [dV,(.int .u64 (.bin .or .u64 aA az))]),au]))))))
theorem afy:sw (ctx E1) 3000 300 (rV Dx.a (rU 0 (rE Dx.a))) (rE Dx.a).length=RB:=by kernel_rfl
def EQ:List Int→List Int:=rR (sG E1) Dx RB
theorem Nn:rQ Tryz.prog gG ⟨300,Dx,EQ⟩:=sQ (sS Aq) 3000 afy (by kernel_rfl)
def ER:Ct:=⟨[.agg [kU,kU],.agg [kU,kU]],[.sc kI]⟩
def RF:ru SV :=
 (.leaf (.int .i64 (.ite (.bin .neq .i64 gp ae) gp (.ite (.bin .neq .i64 gy ae) gy ae))))
theorem afz:sw (ctx E1) 3000 234 (rV ER.a (rU 0 (rE ER.a))) (rE ER.a).length=RF:=by kernel_rfl
def ES:List Int→List Int:=rR (sG E1) ER RF
theorem WO:rQ Tryz.prog gG ⟨234,ER,ES⟩:=sQ (sS Aq) 3000 afz (by kernel_rfl)
def E2:List sH:=⟨80,Ia,WA⟩::⟨81,Ib,WC⟩::⟨60,Dw,KE⟩::⟨59,Ic,WG⟩::⟨298,EP,Nl⟩::⟨191,Ie,WJ⟩::⟨319,Ig,WL⟩::⟨320,Ih,WN⟩::⟨300,Dx,EQ⟩::⟨234,ER,ES⟩::E1
theorem ET:∀ e∈E2,rQ Tryz.prog gG e:=List.forall_mem_cons.2 ⟨afl,List.forall_mem_cons.2 ⟨afn,List.forall_mem_cons.2 ⟨WE,List.forall_mem_cons.2 ⟨afq,List.forall_mem_cons.2 ⟨WH,List.forall_mem_cons.2 ⟨aft,List.forall_mem_cons.2 ⟨afv,List.forall_mem_cons.2 ⟨afx,List.forall_mem_cons.2 ⟨Nn,List.forall_mem_cons.2 ⟨WO,Aq⟩⟩⟩⟩⟩⟩⟩⟩⟩⟩
theorem afA:sG E1 71=H7:=Bp (e:=⟨71,_,H7⟩) rfl
theorem Np:sG E1 347=Ho:=Bp (e:=⟨347,_,Ho⟩) rfl
theorem afB:sG E1 225=Hr:=Bp (e:=⟨225,_,Hr⟩) rfl
theorem WP:sG E1 235=Ha:=Bp (e:=⟨235,_,Ha⟩) rfl
theorem afC:sG E1 75=Hf:=Bp (e:=⟨75,_,Hf⟩) rfl
theorem afD:sG E1 309=Hl:=Bp (e:=⟨309,_,Hl⟩) rfl
open Go.RowKit
def Ii:Ct:=⟨[.sc kB,.agg [kU,kU]],[.agg [kU,kU]]⟩
def WQ:ru SV :=
 (.call 60 dQ 3 1 (.call 59 [ag,az,dR] 4 2 (.leaf (.agg [aD,dV]))))
theorem afE:sw (ctx E2) 3000 26 (rV Ii.a (rU 0 (rE Ii.a))) (rE Ii.a).length=WQ:=by kernel_rfl
def WR:List Int→List Int:=rR (sG E2) Ii WQ
theorem afF:rQ Tryz.prog gG ⟨26,Ii,WR⟩:=sQ (sS ET) 3000 afE (by kernel_rfl)
def Ij:Ct:=⟨[.sc kB,.sc .bool,.sc kI,.agg [kU,kU]],[.agg [kU,kU]]⟩
def WS:ru SV :=
 (.call 71 dQ 5 3 (.ite (.bin .eql .i64 gz ae) (.leaf gD) (.ite ak gQ (.ite (.bin .gtr .i64 aj (.lit 1048576)) gQ (.call 59 [ae,(.conv .u64 aj),gF] 8 2 gP)))))
theorem afG:sw (ctx E2) 3000 35 (rV Ij.a (rU 0 (rE Ij.a))) (rE Ij.a).length=WS:=by kernel_rfl
def WT:List Int→List Int:=rR (sG E2) Ij WS
theorem afH:rQ Tryz.prog gG ⟨35,Ij,WT⟩:=sQ (sS ET) 3000 afG (by kernel_rfl)
def Ik:Ct:=⟨[.sc kB,.sc kI],[.sc .bool]⟩
def WU:ru SV :=
 (.ite dF (.call 80 dQ 2 1 (.leaf (.bool (.bin .gtr .i64 (.var kI 1) aj)))) av)
theorem afI:sw (ctx E2) 3000 264 (rV Ik.a (rU 0 (rE Ik.a))) (rE Ik.a).length=WU:=by kernel_rfl
def WV:List Int→List Int:=rR (sG E2) Ik WU
theorem afJ:rQ Tryz.prog gG ⟨264,Ik,WV⟩:=sQ (sS ET) 3000 afI (by kernel_rfl)
def Il:Ct:=⟨[.agg [kU,kU,kU,kU],.sc kI],[.agg [kU,kU,kU,kU]]⟩
def WW:ru SV :=
 (.call 228 fH 5 4 (.call 319 fH 9 1 (.ite gT (.leaf (.agg [(.int .u64 (.bin .or .u64 dU ai)),aB,fA,fB])) (.leaf fM))))
theorem afK:sw (ctx E2) 3000 266 (rV Il.a (rU 0 (rE Il.a))) (rE Il.a).length=WW:=by kernel_rfl
def WX:List Int→List Int:=rR (sG E2) Il WW
theorem afL:rQ Tryz.prog gG ⟨266,Il,WX⟩:=sQ (sS ET) 3000 afK (by kernel_rfl)
def Im:Ct:=⟨[.agg [kU,kU,kU,kU],.sc kI],[.sc kB]⟩
def WY:ru SV :=
 (.ite gU (.leaf gV) (.ite gW (.leaf gV) (.call 319 [aa,ag,az,ay,gY] 5 1 (.leaf (.int .u8 (.ite (.ite (.bin .eql .i64 (.bin .shr .i64 gY aO) aW) (.bin .eql .u64 (.bin .and .u64 (.bin .shr .u64 az gZ) ai) ai) (.bin .eql .u64 (.bin .and .u64 (.bin .shr .u64 ay gZ) ai) ai)) (.ite ib bK aW) (.ite ib ai ae)))))))
theorem afM:sw (ctx E2) 3000 322 (rV Im.a (rU 0 (rE Im.a))) (rE Im.a).length=WY:=by kernel_rfl
def WZ:List Int→List Int:=rR (sG E2) Im WY
theorem afN:rQ Tryz.prog gG ⟨322,Im,WZ⟩:=sQ (sS ET) 3000 afM (by kernel_rfl)
def Io:Ct:=⟨[.agg [.bool,kB,kI,kU,kU],.agg [.bool,kB,kI,kU,kU]],[.sc kI,.agg [kU,kU,kU,kU]]⟩
def W9:ru SV :=
 (.ite (.bin .neq .u8 dJ ai) (.ite (.bin .neq .u8 dJ aW) ic iw) iw)
theorem afO:sw (ctx E2) 3000 222 (rV Io.a (rU 0 (rE Io.a))) (rE Io.a).length=W9:=by kernel_rfl
def Xa:List Int→List Int:=rR (sG E2) Io W9
theorem afP:rQ Tryz.prog gG ⟨222,Io,Xa⟩:=sQ (sS ET) 3000 afO (by kernel_rfl)
def E3:List sH:=⟨26,Ii,WR⟩::⟨35,Ij,WT⟩::⟨264,Ik,WV⟩::⟨266,Il,WX⟩::⟨322,Im,WZ⟩::⟨222,Io,Xa⟩::E2
theorem Dy:∀ e∈E3,rQ Tryz.prog gG e:=List.forall_mem_cons.2 ⟨afF,List.forall_mem_cons.2 ⟨afH,List.forall_mem_cons.2 ⟨afJ,List.forall_mem_cons.2 ⟨afL,List.forall_mem_cons.2 ⟨afN,List.forall_mem_cons.2 ⟨afP,ET⟩⟩⟩⟩⟩⟩
open Go.RowKit
def Ip:Ct:=⟨[.sc kB,.sc .bool],[.agg [kU,kU]]⟩
def Xb:ru SV :=
 (.call 35 [dE,dH,ae,ae,ae] 2 2 (.leaf (.agg [aG,aH])))
theorem afQ:sw (ctx E3) 3000 227 (rV Ip.a (rU 0 (rE Ip.a))) (rE Ip.a).length=Xb:=by kernel_rfl
def Xc:List Int→List Int:=rR (sG E3) Ip Xb
theorem afR:rQ Tryz.prog gG ⟨227,Ip,Xc⟩:=sQ (sS Dy) 3000 afQ (by kernel_rfl)
def Iq:Ct:=⟨[.sc kB,.sc .bool],[.agg [kU,kU]]⟩
def Xd:ru SV :=
 (.call 80 dQ 2 1 (.call 35 [dE,dH,(.bin .add .i64 iy ai),ae,ae] 3 2 iA))
theorem afS:sw (ctx E3) 3000 127 (rV Iq.a (rU 0 (rE Iq.a))) (rE Iq.a).length=Xd:=by kernel_rfl
def Xe:List Int→List Int:=rR (sG E3) Iq Xd
theorem afT:rQ Tryz.prog gG ⟨127,Iq,Xe⟩:=sQ (sS Dy) 3000 afS (by kernel_rfl)
def Ir:Ct:=⟨[.sc kB,.sc .bool],[.agg [kU,kU]]⟩
def Xf:ru SV :=
 (.call 80 dQ 2 1 (.call 35 [dE,dH,iy,iB,iB] 3 2 iA))
theorem afU:sw (ctx E3) 3000 325 (rV Ir.a (rU 0 (rE Ir.a))) (rE Ir.a).length=Xf:=by kernel_rfl
def Xg:List Int→List Int:=rR (sG E3) Ir Xf
theorem afV:rQ Tryz.prog gG ⟨325,Ir,Xg⟩:=sQ (sS Dy) 3000 afU (by kernel_rfl)
def Iu:Ct:=⟨[.sc kB,.agg [kU,kU]],[.sc .bool,.sc kI,.agg [kU,kU]]⟩
def Xh:ru SV :=
 (.call 71 dQ 3 3 (.ite (.bin .eql .i64 dR ae) (.leaf (.tup [au,dD,gD])) (.call 26 iC 6 2 (.call 72 [aA,dX,iD] 8 2 (.call 73 [ag,az,(.bin .sub .i64 dR ai)] 10 1 (.call 59 [dZ,ek,(.bin .sub .i64 dR bi)] 11 2 (.call 59 [ag,az,iD] 13 2 (.leaf (.tup [(.bool fZ),(.int .i64 (.conv .i64 eF)),(.agg [il,gM])])))))))))
theorem afW:sw (ctx E3) 3000 34 (rV Iu.a (rU 0 (rE Iu.a))) (rE Iu.a).length=Xh:=by kernel_rfl
def Xi:List Int→List Int:=rR (sG E3) Iu Xh
theorem afX:rQ Tryz.prog gG ⟨34,Iu,Xi⟩:=sQ (sS Dy) 3000 afW (by kernel_rfl)
def Iw:Ct:=⟨[.sc kB,.sc .bool,.sc kI,.agg [kU,kU]],[.agg [kU,kU]]⟩
def Xj:ru SV :=
 (.ite (.bin .eql .i64 aj ae) (.call 81 dQ 5 1 (.call 73 [ay,aC,gI] 6 1 (.ite iE (.call 35 [dE,dH,ai,ay,aC] 7 2 iF) (.call 35 [dE,dH,aj,ay,aC] 7 2 iF)))) (.call 35 [dE,dH,aj,ay,aC] 5 2 dW))
theorem afY:sw (ctx E3) 3000 267 (rV Iw.a (rU 0 (rE Iw.a))) (rE Iw.a).length=Xj:=by kernel_rfl
def Xk:List Int→List Int:=rR (sG E3) Iw Xj
theorem afZ:rQ Tryz.prog gG ⟨267,Iw,Xk⟩:=sQ (sS Dy) 3000 afY (by kernel_rfl)
def Iy:Ct:=⟨[.sc kB],[.agg [kU,kU]]⟩
def Xl:ru SV :=
 (.call 80 dQ 1 1 (.call 81 dQ 2 1 (.call 74 [ae,ai,(.bin .sub .i64 aj aW)] 3 2 (.call 35 [dE,ae,(.bin .add .i64 (.bin .mul .i64 aW (.var kI 1)) ai),ay,aC] 5 2 dW))))
theorem af0:sw (ctx E3) 3000 194 (rV Iy.a (rU 0 (rE Iy.a))) (rE Iy.a).length=Xl:=by kernel_rfl
def Xm:List Int→List Int:=rR (sG E3) Iy Xl
theorem af1:rQ Tryz.prog gG ⟨194,Iy,Xm⟩:=sQ (sS Dy) 3000 af0 (by kernel_rfl)
def Iz:Ct:=⟨[.agg [kU,kU,kU,kU],.sc kI,.sc kB,.sc .bool],[.agg [kU,kU],.sc .bool]⟩
def Xn:ru SV :=
 (.ite gU iG (.ite gW iG (.ite (.not (.bin .leq .u8 (.var kB 5) cz)) iG (.call 228 [aa,ag,az,ay,fK] 7 4 (.call 321 [dX,dZ,ek,eu] 11 2 (.call 322 fH 13 1 (.call 323 [(.var kB 5),iE,(.bin .eql .u64 (.bin .and .u64 eF ai) ai),iH] 14 1 (.ite iI (.call 75 [eB,eF,ae,ai] 15 3 (.leaf (.tup [(.agg [gN,iJ]),iK]))) (.leaf (.tup [(.agg [fF,fG]),iK]))))))))))
theorem af2:sw (ctx E3) 3000 262 (rV Iz.a (rU 0 (rE Iz.a))) (rE Iz.a).length=Xn:=by kernel_rfl
def Xo:List Int→List Int:=rR (sG E3) Iz Xn
theorem af3:rQ Tryz.prog gG ⟨262,Iz,Xo⟩:=sQ (sS Dy) 3000 af2 (by kernel_rfl)
def E4:List sH:=⟨227,Ip,Xc⟩::⟨127,Iq,Xe⟩::⟨325,Ir,Xg⟩::⟨34,Iu,Xi⟩::⟨267,Iw,Xk⟩::⟨194,Iy,Xm⟩::⟨262,Iz,Xo⟩::E3
theorem KF:∀ e∈E4,rQ Tryz.prog gG e:=List.forall_mem_cons.2 ⟨afR,List.forall_mem_cons.2 ⟨afT,List.forall_mem_cons.2 ⟨afV,List.forall_mem_cons.2 ⟨afX,List.forall_mem_cons.2 ⟨afZ,List.forall_mem_cons.2 ⟨af1,List.forall_mem_cons.2 ⟨af3,Dy⟩⟩⟩⟩⟩⟩⟩
open Go.RowKit
def IA:Ct:=⟨[.sc kB,.agg [kU,kU]],[.sc kB,.sc .bool]⟩
def Xp:ru SV :=
 (.ite dG (.leaf (.tup [gV,au])) (.call 34 iC 3 4 (.call 79 [dU,aA] 7 1 (.call 80 dQ 8 1 (.ite fJ (.ite fO (.leaf (.tup [gV,iM])) (.leaf (.tup [iN,iM]))) (.ite (.bin .lss .i64 bi (.bin .add .i64 (.bin .mul .i64 aW (.var kI 8)) ai)) (.leaf (.tup [iO,iM])) (.ite fO (.leaf (.tup [iP,iM])) (.call 81 dQ 9 1 (.call 73 [dU,aA,(.bin .sub .i64 iQ aW)] 10 1 (.ite fZ (.leaf (.tup [(.int .u8 cz),iM])) (.leaf (.tup [(.int .u8 (.lit 5)),iM]))))))))))))
theorem af4:sw (ctx E4) 3000 37 (rV IA.a (rU 0 (rE IA.a))) (rE IA.a).length=Xp:=by kernel_rfl
def Xq:List Int→List Int:=rR (sG E4) IA Xp
theorem af5:rQ Tryz.prog gG ⟨37,IA,Xq⟩:=sQ (sS KF) 3000 af4 (by kernel_rfl)
def IB:Ct:=⟨[.sc kB,.sc kB,.sc .bool],[.agg [kU,kU,kB]]⟩
def Xr:ru SV :=
 (.ite dG iR (.ite iT iR (.call 327 [dJ,dI] 3 1 (.ite iL (.call 127 [dE,dI] 4 2 iU) (.call 325 [dE,dI] 4 2 iU)))))
theorem af6:sw (ctx E4) 3000 265 (rV IB.a (rU 0 (rE IB.a))) (rE IB.a).length=Xr:=by kernel_rfl
def Xt:List Int→List Int:=rR (sG E4) IB Xr
theorem af7:rQ Tryz.prog gG ⟨265,IB,Xt⟩:=sQ (sS KF) 3000 af6 (by kernel_rfl)
def IC:Ct:=⟨[.sc kB,.agg [kU,kU]],[.agg [kU,kU]]⟩
def Xu:ru SV :=
 (.call 194 dQ 3 2 (.call 34 iV 5 4 (.leaf (.agg [(.int .u64 (.bin .or .u64 ag dX)),(.int .u64 (.bin .or .u64 az dZ))]))))
theorem af8:sw (ctx E4) 3000 313 (rV IC.a (rU 0 (rE IC.a))) (rE IC.a).length=Xu:=by kernel_rfl
def Xv:List Int→List Int:=rR (sG E4) IC Xu
theorem af9:rQ Tryz.prog gG ⟨313,IC,Xv⟩:=sQ (sS KF) 3000 af8 (by kernel_rfl)
def IE:Ct:=⟨[.sc kB,.agg [kU,kU]],[.agg [kU,kU]]⟩
def Xw:ru SV :=
 (.call 34 iC 3 4 (.call 35 [dE,(.not iL),bi,dU,aA] 7 2 iF))
theorem aga:sw (ctx E4) 3000 76 (rV IE.a (rU 0 (rE IE.a))) (rE IE.a).length=Xw:=by kernel_rfl
def Xx:List Int→List Int:=rR (sG E4) IE Xw
theorem agb:rQ Tryz.prog gG ⟨76,IE,Xx⟩:=sQ (sS KF) 3000 aga (by kernel_rfl)
def E5:List sH:=⟨37,IA,Xq⟩::⟨265,IB,Xt⟩::⟨313,IC,Xv⟩::⟨76,IE,Xx⟩::E4
theorem IG:∀ e∈E5,rQ Tryz.prog gG e:=List.forall_mem_cons.2 ⟨af5,List.forall_mem_cons.2 ⟨af7,List.forall_mem_cons.2 ⟨af9,List.forall_mem_cons.2 ⟨agb,KF⟩⟩⟩⟩
open Go.RowKit
def II:Ct:=⟨[.sc kB,.agg [kU,kU]],[.sc .bool]⟩
def Xy:ru SV :=
 (.call 37 iC 3 2 (.leaf (.bool (.bin .geq .u8 iW cz))))
theorem agc:sw (ctx E5) 3000 31 (rV II.a (rU 0 (rE II.a))) (rE II.a).length=Xy:=by kernel_rfl
def Xz:List Int→List Int:=rR (sG E5) II Xy
theorem agd:rQ Tryz.prog gG ⟨31,II,Xz⟩:=sQ (sS IG) 3000 agc (by kernel_rfl)
def IJ:Ct:=⟨[.sc kB,.agg [kU,kU]],[.sc .bool]⟩
def XA:ru SV :=
 (.call 37 iC 3 2 (.ite dF (.leaf (.bool (.bin .lss .u8 iW bK))) av))
theorem age:sw (ctx E5) 3000 57 (rV IJ.a (rU 0 (rE IJ.a))) (rE IJ.a).length=XA:=by kernel_rfl
def XB:List Int→List Int:=rR (sG E5) IJ XA
theorem agf:rQ Tryz.prog gG ⟨57,IJ,XB⟩:=sQ (sS IG) 3000 age (by kernel_rfl)
def IK:Ct:=⟨[.sc kB,.agg [kU,kU]],[.agg [.bool,kB,kI,kU,kU]]⟩
def XC:ru SV :=
 (.call 37 iC 3 2 (.call 81 dQ 5 1 (.call 80 dQ 6 1 (.call 34 iC 7 4 (.ite (.bin .eql .u8 iW aW) (.call 74 [ek,eu,(.bin .sub .i64 aL gz)] 11 2 (.call 75 [eB,eF,iX,ae] 13 3 (.leaf (.agg [(.bool iY),iZ,(.int .i64 (.bin .sub .i64 (.var kI 8) fw)),il,gM])))) (.ite (.bin .eql .u8 iW ai) (.call 191 [ek,eu] 11 3 (.leaf (.agg [(.bool iY),iZ,(.int .i64 (.bin .sub .i64 (.bin .sub .i64 (.bin .add .i64 (.bin .sub .i64 ai fw) aL) gz) (.var kI 13))),fF,fG]))) (.leaf (.agg [(.bool iY),iZ,dD,aK,aK]))))))))
theorem agh:sw (ctx E5) 3000 125 (rV IK.a (rU 0 (rE IK.a))) (rE IK.a).length=XC:=by kernel_rfl
def XD:List Int→List Int:=rR (sG E5) IK XC
theorem agi:rQ Tryz.prog gG ⟨125,IK,XD⟩:=sQ (sS IG) 3000 agh (by kernel_rfl)
def IL:Ct:=⟨[.sc kB,.agg [kB,.bool],.sc .bool,.sc kI,.agg [kU,kU,kU,kU]],[.agg [kU,kU,kB]]⟩
def XE:ru SV :=
 (.ite dG iR (.ite iT iR (.call 202 [dU,aA,dX,dZ] 9 1 (.ite gT (.call 227 [dE,iL] 10 2 (.leaf (.agg [ik,fF,gV]))) (.call 320 [dU,aA,dX,dZ] 10 5 (.call 81 dQ 15 1 (.call 80 dQ 16 1 (.call 262 [eu,eB,eF,eD,ja,dJ,iL] 17 3 (.call 73 [eH,eO,ja] 20 1 (.ite jb (.call 264 [dE,jg] 21 1 (.ite jh ji (.ite jl (.ite (.not dI) jE (.call 266 jm 22 4 (.call 262 jq 26 3 (.call 267 [dE,iL,ae,jr,jv] 29 2 (.ite (.var .bool 28) (.ite (.bin .lss .i64 jg jk) jC (.leaf (.agg [jy,jB,jF]))) jD))))) (.call 267 [dE,iL,(.bin .add .i64 (.bin .sub .i64 jg jk) ai),eH,eO] 22 2 jI)))) (.call 264 [dE,jf] 21 1 (.ite jh ji (.ite jl (.ite (.not dI) jE jE) (.call 267 [dE,iL,(.bin .add .i64 (.bin .sub .i64 jf jk) ai),eH,eO] 22 2 jI))))))))))))))
theorem agj:sw (ctx E5) 3000 204 (rV IL.a (rU 0 (rE IL.a))) (rE IL.a).length=XE:=by kernel_rfl
def XF:List Int→List Int:=rR (sG E5) IL XE
theorem agk:rQ Tryz.prog gG ⟨204,IL,XF⟩:=sQ (sS IG) 3000 agj (by kernel_rfl)
def IM:Ct:=⟨[.sc kB,.agg [kU,kU]],[.sc .bool]⟩
def XG:ru SV :=
 (.call 37 iC 3 2 (.leaf (.bool (.bin .eql .u8 iW (.lit 5)))))
theorem agl:sw (ctx E5) 3000 196 (rV IM.a (rU 0 (rE IM.a))) (rE IM.a).length=XG:=by kernel_rfl
def XH:List Int→List Int:=rR (sG E5) IM XG
theorem agm:rQ Tryz.prog gG ⟨196,IM,XH⟩:=sQ (sS IG) 3000 agl (by kernel_rfl)
def E6:List sH:=⟨31,II,Xz⟩::⟨57,IJ,XB⟩::⟨125,IK,XD⟩::⟨204,IL,XF⟩::⟨196,IM,XH⟩::E5
theorem XI:∀ e∈E6,rQ Tryz.prog gG e:=List.forall_mem_cons.2 ⟨agd,List.forall_mem_cons.2 ⟨agf,List.forall_mem_cons.2 ⟨agi,List.forall_mem_cons.2 ⟨agk,List.forall_mem_cons.2 ⟨agm,IG⟩⟩⟩⟩⟩
open Go.RowKit
def IP:Ct:=⟨[.sc kB,.agg [kU,kU]],[.agg [kU,kU]]⟩
def XJ:ru SV :=
 (.call 26 iC 3 2 (.call 31 iV 5 1 (.ite ib (.call 81 dQ 6 1 (.call 74 [ae,ai,(.bin .sub .i64 fw aW)] 7 2 (.leaf (.agg [(.int .u64 (.bin .or .u64 ay dX)),(.int .u64 (.bin .or .u64 aC dZ))])))) iA)))
theorem agn:sw (ctx E6) 3000 195 (rV IP.a (rU 0 (rE IP.a))) (rE IP.a).length=XJ:=by kernel_rfl
def XK:List Int→List Int:=rR (sG E6) IP XJ
theorem agp:rQ Tryz.prog gG ⟨195,IP,XK⟩:=sQ (sS XI) 3000 agn (by kernel_rfl)
def E7:List sH:=⟨195,IP,XK⟩::E6
theorem Nq:∀ e∈E7,rQ Tryz.prog gG e:=List.forall_mem_cons.2 ⟨agp,XI⟩
open Go.RowKit
def IQ:Ct:=⟨[.sc kB,.agg [kB,.bool],.agg [kU,kU],.agg [kU,kU]],[.agg [kU,kU,kB]]⟩
def XL:ru SV :=
 (.ite dG iR (.ite iT iR (.call 125 iV 7 5 (.call 125 jJ 12 5 (.call 220 jM 17 1 (.call 31 iV 18 1 (.ite (.var .bool 18) (.call 194 dQ 19 2 (.call 195 iV 21 2 (.ite jN jO (.call 196 iV 23 1 (.ite (.var .bool 23) jO (.call 196 jJ 24 1 (.ite jP jO jQ))))))) (.call 31 jJ 19 1 (.ite jG (.call 194 dQ 20 2 (.call 195 jJ 22 2 (.ite jN jR (.call 196 iV 24 1 (.ite jP jR (.call 196 jJ 25 1 (.ite jS jR jH))))))) (.ite (.not jN) (.ite (.bin .geq .i64 (.ite jT ae (.ite jU ai dM)) ae) (.call 127 [dE,jV] 20 2 jW) (.call 222 jM 20 5 (.call 204 [dE,dJ,dI,jV,(.var kI 20),eU,eY,fe,fu] 25 3 (.leaf (.agg [(.int .u64 jo),jX,(.int .u8 (.var kB 27))]))))) (.call 194 dQ 20 2 (.leaf (.agg [gL,eX,iN])))))))))))))
theorem agq:sw (ctx E7) 3000 162 (rV IQ.a (rU 0 (rE IQ.a))) (rE IQ.a).length=XL:=by kernel_rfl
def XM:List Int→List Int:=rR (sG E7) IQ XL
theorem agr:rQ Tryz.prog gG ⟨162,IQ,XM⟩:=sQ (sS Nq) 3000 agq (by kernel_rfl)
def IR:Ct:=⟨[.sc kB,.sc kB,.agg [kU,kU]],[.agg [kU,kU,kB],.sc .bool]⟩
def XN:ru SV :=
 (.ite jY jZ (.call 31 j4 4 1 (.ite (.not iY) jZ (.call 34 j4 5 4 (.call 81 dQ 9 1 (.call 74 [dX,dZ,(.bin .sub .i64 (.lit 129) iQ)] 10 2 (.call 81 [dJ] 12 1 (.call 72 [eu,eB,(.bin .sub .i64 (.lit 129) j5)] 13 2 (.call 80 [dJ] 15 1 (.call 313 [dJ,eD,eT] 16 2 (.call 35 [dJ,ib,(.bin .add .i64 (.bin .mul .i64 aW ja) ai),eG,eH] 18 2 (.call 195 [dJ,eO,eP] 20 2 (.call 196 j4 22 1 (.ite (.var .bool 22) (.leaf (.tup [(.agg [gL,eX,iN]),fT])) (.leaf (.tup [(.agg [gL,eX,gV]),fT]))))))))))))))))
theorem ags:sw (ctx E7) 3000 243 (rV IR.a (rU 0 (rE IR.a))) (rE IR.a).length=XN:=by kernel_rfl
def XO:List Int→List Int:=rR (sG E7) IR XN
theorem agt:rQ Tryz.prog gG ⟨243,IR,XO⟩:=sQ (sS Nq) 3000 ags (by kernel_rfl)
def E8:List sH:=⟨162,IQ,XM⟩::⟨243,IR,XO⟩::E7
theorem XP:∀ e∈E8,rQ Tryz.prog gG e:=List.forall_mem_cons.2 ⟨agr,List.forall_mem_cons.2 ⟨agt,Nq⟩⟩
open Go.RowKit
def IU:Ct:=⟨[.sc kB,.sc kB,.agg [kB,.bool],.agg [kU,kU]],[.agg [kU,kU,kB]]⟩
def XQ:ru SV :=
 (.ite (.not (.ite dG ae (.ite jY ae ai))) iR (.ite kg iR (.call 243 [dE,dJ,aC,dU] 6 4 (.ite gT (.leaf (.agg [aB,fA,(.int .u8 jK)])) (.call 125 ku 10 5 (.ite kv (.call 127 [dJ,fZ] 15 2 kw) (.call 225 [eD,eT,ae,ae] 15 4 (.call 204 [dJ,j6,iL,fZ,j5,eQ,eG,eH,eO] 19 3 (.leaf (.agg [gJ,gL,(.int .u8 (.var kB 21))]))))))))))
theorem agu:sw (ctx E8) 3000 176 (rV IU.a (rU 0 (rE IU.a))) (rE IU.a).length=XQ:=by kernel_rfl
def XR:List Int→List Int:=rR (sG E8) IU XQ
theorem agv:rQ Tryz.prog gG ⟨176,IU,XR⟩:=sQ (sS XP) 3000 agu (by kernel_rfl)
def E9:List sH:=⟨176,IU,XR⟩::E8
theorem agw:∀ e∈E9,rQ Tryz.prog gG e:=List.forall_mem_cons.2 ⟨agv,XP⟩
open Go.RowKit
def XT:List sH:=E9
theorem agx:∀ e∈XT,rQ Tryz.prog gG e:=agw
end Go.Proofs.YtbembkamcdlhbaaGreatDoor
